/- What lets go whom it is longest till is asked for: no way to choose finds more: true whatever is drawn. No condition. -/
import Derived.Test.YtllaoamaplepmaaDFnBest
import Derived.Test.YtllaoamaplepmaaLm
namespace Go.Proofs.Ytllaoamaplepmaa.Pure
open Go.RowKit Go.Proofs.Ytllaoamaplepmaa.QFnBest Go.Proofs.YtllaoamaplepmaaW.PrintWords Go.Proofs.YtllaoamaplepmaaW.PrintLast Go.Proofs.YtllaoamaplepmaaW.PrintMore Go.Proofs.Ytllaoamaplepmaa.Lm
set_option linter.unusedSimpArgs false
set_option linter.unusedVariables false
theorem and255 (x : Int) : 0 ≤ Go.bits .and .i64 x 255 ∧ Go.bits .and .i64 x 255 ≤ 255 := by
  unfold Go.bits
  rw [Go.IntKind.wrap_i64]
  have h : ((BitVec.ofInt Go.IntKind.i64.bits x &&& BitVec.ofInt Go.IntKind.i64.bits 255).toNat) ≤ 255 := by
    rw [BitVec.toNat_and]; exact Nat.le_trans Nat.and_le_right (by decide)
  simp only
  omega
/-- A place in a code. -/
def At (c : List Int) (i : Int) : Prop := 0 ≤ i ∧ i ≤ (c.length : Int) ∧ c.length ≤ 1048576
theorem byte_some (c : List Int) (i h : Int) (hi : At c i) : ∃ b i' h', spec_l01Byte.f c i h = some (b, i', h') ∧ 0 ≤ b ∧ b ≤ 255 ∧ At c i' := by
  obtain ⟨h0, h1, h2⟩ := hi
  simp only [spec_l01Byte.f]
  by_cases c1 : i < (c.length : Int)
  · rw [if_pos c1, if_pos h0]
    refine ⟨_, _, _, rfl, (and255 _).1, (and255 _).2, ?_⟩
    rw [w64 (by omega) (by omega)]
    exact ⟨by omega, by omega, h2⟩
  · rw [if_neg c1]
    exact ⟨_, _, _, rfl, (and255 _).1, (and255 _).2, h0, h1, h2⟩
theorem below_some (c : List Int) (i h n : Int) (hi : At c i) (h1 : 1 ≤ n) (h2 : n ≤ 256) : ∃ b i' h', spec_l01Below.f c i h n = some (b, i', h') ∧ 0 ≤ b ∧ b < n ∧ At c i' := by
  obtain ⟨b, i', h', e, b0, b1, ha⟩ := byte_some c i h hi
  refine ⟨b.tmod n, i', h', ?_, ?_, ?_, ha⟩
  · simp only [spec_l01Below.f, e, Option.bind_some]
    rw [if_neg (by omega), if_pos h2, if_neg (by omega)]
  · rw [Int.tmod_eq_emod_of_nonneg b0]; exact Int.emod_nonneg _ (by omega)
  · rw [Int.tmod_eq_emod_of_nonneg b0]; exact Int.emod_lt_of_pos _ (by omega)
theorem new_some (c : List Int) (hc : c.length ≤ 1048576) : ∃ h, Ev (fun k => spec_l01New.f k c) (c, 0, h) := by
  obtain ⟨r, ⟨h, rfl⟩, hr⟩ := Ev.scanX (fun k (s : Int) i => spec_l01New.l0 k c s i) c.length (fun _ _ => True) (fun r => ∃ h, r = (c, 0, h))
    (fun s _ => ⟨(c, 0, s), ⟨s, rfl⟩, Ev.some_ fun k => by simp only [spec_l01New.l0]; rw [if_neg (by omega)]⟩)
    (fun i s hi _ => by
      by_cases c1 : (i : Int) < 4000
      · exact .inr ⟨_, trivial, EvE.of fun k => by simp only [spec_l01New.l0]; rw [if_pos (by omega), if_pos c1, if_pos (by omega), w64s hi (by omega)]⟩
      · exact .inl ⟨(c, 0, s), ⟨s, rfl⟩, Ev.some_ fun k => by simp only [spec_l01New.l0]; rw [if_pos (by omega), if_neg c1]⟩) 0 (wrap64 (774119 + (c.length : Int))) (Nat.zero_le _) trivial
  exact ⟨h, by simpa [spec_l01New.f] using hr⟩
def keys8 : List ByteArray := [(⟨#[97]⟩ : ByteArray), (⟨#[98]⟩ : ByteArray), (⟨#[99]⟩ : ByteArray), (⟨#[100]⟩ : ByteArray), (⟨#[101]⟩ : ByteArray), (⟨#[102]⟩ : ByteArray), (⟨#[103]⟩ : ByteArray), (⟨#[104]⟩ : ByteArray)]
theorem key_some (c : List Int) (i h : Int) (hi : At c i) : ∃ b i' h', spec_l10Key.f c i h = some (b, i', h') ∧ b ∈ keys8 ∧ At c i' := by
  obtain ⟨j, i', h', e, j0, j1, ha⟩ := below_some c i h 8 hi (by omega) (by omega)
  obtain ⟨m, rfl⟩ : ∃ m : Nat, j = (m : Int) := ⟨j.toNat, by omega⟩
  refine ⟨rdOf ByteArray.empty keys8 (m : Int), i', h', ?_, rdOf_mem _ _ _ (by show m < 8; omega), ha⟩
  have e' : spec_l01Below.f c i h ((keys8.length : Nat) : Int) = some ((m : Int), i', h') := e
  have hl : ((keys8.length : Nat) : Int) = 8 := rfl
  have hf : spec_l01Of.f c i h keys8 = some (rdOf ByteArray.empty keys8 (m : Int), i', h') := by
    simp only [spec_l01Of.f, e', Option.bind_some]
    rw [if_pos (by omega), if_pos (by omega)]
  show (spec_l01Of.f c i h keys8).bind _ = _
  rw [hf, Option.bind_some]
theorem asks_loop (c : List Int) (n : Nat) (hn : n ≤ 200) : ∀ (m : Nat) (a : List ByteArray) (i h : Int), m ≤ n → a.length + m ≤ n → (∀ x ∈ a, x ∈ keys8) → At c i → ∃ r : List ByteArray × Int × Int, (r.1.length ≤ n ∧ ∀ x ∈ r.1, x ∈ keys8) ∧ Ev (fun k => spec_l12Asks.l0 k a (m : Int) c i h) r := by
  intro m
  induction m with
  | zero =>
    intro a i h _ ha hk _
    exact ⟨(a, i, h), ⟨by simp only; omega, hk⟩, Ev.up (g := fun _ => some _) (EvE.of fun k => by simp only [spec_l12Asks.l0]; rw [if_neg (by omega)]) (Ev.now _)⟩
  | succ m ih =>
    intro a i h hm ha hk hi
    obtain ⟨b, i1, h1, e1, b0, b1, hi1⟩ := below_some c i h 3 hi (by omega) (by omega)
    have hw : wrap64 (((m + 1 : Nat) : Int) - 1) = (m : Int) := by rw [w64 (by omega) (by omega)]; omega
    have again : ∃ r : List ByteArray × Int × Int, (r.1.length ≤ n ∧ ∀ x ∈ r.1, x ∈ keys8) ∧ Ev (fun k => spec_l12Asks.j1 k a ((m + 1 : Nat) : Int) (decide (b = 0) && decide ((a.length : Int) > 0)) c i1 h1) r := by
      cases cb : decide (b = 0) && decide ((a.length : Int) > 0) with
      | true =>
        simp only [Bool.and_eq_true, decide_eq_true_eq] at cb
        obtain ⟨j, i2, h2, e2, j0, j1, hi2⟩ := below_some c i1 h1 (a.length : Int) hi1 (by omega) (by omega)
        obtain ⟨q, rfl⟩ : ∃ q : Nat, j = (q : Int) := ⟨j.toNat, by omega⟩
        have hmem := rdOf_mem ByteArray.empty a q (by omega)
        obtain ⟨r, hr, hE⟩ := ih (a ++ [rdOf ByteArray.empty a (q : Int)]) i2 h2 (by omega) (by simp; omega) (fun x hx => (List.mem_append.1 hx).elim (hk x) (fun h => by rw [List.mem_singleton.1 h]; exact hk _ hmem)) hi2
        refine ⟨r, hr, Ev.up (EvE.of fun k => ?_) hE⟩
        simp only [spec_l12Asks.j1, if_true, e2, Option.bind_some, hw]
        rw [if_pos (by clear hw; omega), if_pos (by clear hw; omega), if_pos (by clear hw; omega)]
      | false =>
        obtain ⟨x, i2, h2, e2, hx, hi2⟩ := key_some c i1 h1 hi1
        obtain ⟨r, hr, hE⟩ := ih (a ++ [x]) i2 h2 (by omega) (by simp; omega) (fun y hy => (List.mem_append.1 hy).elim (hk y) (fun h => by rw [List.mem_singleton.1 h]; exact hx)) hi2
        refine ⟨r, hr, Ev.up (EvE.of fun k => ?_) hE⟩
        simp only [spec_l12Asks.j1, Bool.false_eq_true, if_false, e2, Option.bind_some, hw]
        rw [if_pos (by clear hw; omega)]
    obtain ⟨r, hr, hE⟩ := again
    refine ⟨r, hr, Ev.up (EvE.of fun k => ?_) hE⟩
    simp only [spec_l12Asks.l0, e1, Option.bind_some]
    rw [if_pos (by clear hw; omega)]
    by_cases c1 : b = 0
    · rw [if_pos c1, decide_eq_true c1, Bool.true_and]
    · rw [if_neg c1, decide_eq_false c1, Bool.false_and]
theorem asks_f (c : List Int) (hc : c.length ≤ 1048576) (n : Nat) (hn : n ≤ 200) (h : Int) : ∃ r : List ByteArray × Int × Int, (r.1.length ≤ n ∧ ∀ x ∈ r.1, x ∈ keys8) ∧ Ev (fun k => spec_l12Asks.f k c 0 h (n : Int)) r := by
  obtain ⟨b, i1, h1, e1, b0, b1, hi1⟩ := below_some c 0 h ((n : Int) + 1) ⟨by omega, by omega, hc⟩ (by omega) (by omega)
  obtain ⟨m, rfl⟩ : ∃ m : Nat, b = (m : Int) := ⟨b.toNat, by omega⟩
  obtain ⟨r, hr, hE⟩ := asks_loop c n hn m [] i1 h1 (by omega) (by simp; omega) (by simp) hi1
  have hw : wrap64 ((n : Int) + 1) = (n : Int) + 1 := w64 (by omega) (by omega)
  refine ⟨r, hr, Ev.congr (fun k => ?_) hE⟩
  unfold spec_l12Asks.f
  rw [hw, e1, Option.bind_some]
theorem asks_some (c : List Int) (hc : c.length ≤ 1048576) (n : Nat) (hn : n ≤ 200) : ∃ l : List ByteArray, l.length ≤ n ∧ (∀ x ∈ l, x ∈ keys8) ∧ Ev (fun k => spec_MakeAsks.f k c (n : Int)) l := by
  obtain ⟨h, hnew⟩ := new_some c hc
  obtain ⟨r, hr, hE⟩ := asks_f c hc n hn (wrap64 (h + 17))
  refine ⟨r.1, hr.1, hr.2, (evA hnew (evP hE)).ev fun k ⟨e2, e3⟩ => ?_⟩
  unfold spec_MakeAsks.f
  rw [e2, Option.bind_some]
  exact (congrArg (fun z => z.bind fun bt => some bt.1) e3).trans rfl
theorem impl_isPlain_ev (s : ByteArray) (hs : s.size ≤ 9223372036854775807) : Ev (fun k => impl_isPlain.f k s) (plain (bytesOf s)) := by
  have := Ev.scan (l := fun k (_ : Unit) i => impl_isPlain.l0 k s i) s.size (fun _ _ => True) (fun i _ => plain ((bytesOf s).drop i)) ?_ ?_ 0 () (Nat.zero_le _) trivial
  · simpa [impl_isPlain.f] using this
  · intro _ _
    exact Ev.some_ fun k => by simp only [impl_isPlain.l0]; rw [if_neg (by omega)]; simp [plain, ← bytesOf_length]
  · intro i _ hi _
    have hd := drop_bt s i hi
    have hl : ∀ k, impl_isPlain.l0 (k + 1) s (i : Int) = if bt s (i : Int) = 32 then some false else if bt s (i : Int) = 10 then some false else impl_isPlain.l0 k s ((i + 1 : Nat) : Int) := fun k => by
      simp only [impl_isPlain.l0]; rw [if_pos (by omega), if_pos (by omega), w64s hi hs]
    by_cases h1 : bt s (i : Int) = 32
    · exact .inl (Ev.some_ fun k => by simp only [hl]; rw [if_pos h1, hd, h1]; rfl)
    · by_cases h2 : bt s (i : Int) = 10
      · exact .inl (Ev.some_ fun k => by simp only [hl]; rw [if_neg h1, if_pos h2, hd, h2]; rfl)
      · exact .inr ⟨(), trivial, by rw [hd]; simp [plain, h1, h2], EvE.of fun k => by simp only [hl]; rw [if_neg h1, if_neg h2]⟩
theorem impl_ItemOk_ev (a b : ByteArray) (f : Int) (ha : a.size ≤ 9223372036854775807) (hb : b.size ≤ 9223372036854775807) : Ev (fun k => impl_ItemOk.f k a b f) (itemOk a b f) := by
  obtain ⟨K1, h1⟩ := impl_isPlain_ev a ha
  obtain ⟨K2, h2⟩ := impl_isPlain_ev b hb
  refine ⟨max K1 K2, fun k hk => ?_⟩
  have e1 := h1 k (by omega)
  have e2 := h2 k (by omega)
  by_cases c1 : 1 ≤ (a.size : Int) <;> by_cases c2 : (a.size : Int) ≤ 20 <;> by_cases c3 : (b.size : Int) ≤ 40 <;> by_cases c4 : 0 ≤ f <;> by_cases c5 : f ≤ 3 <;> cases p1 : plain (bytesOf a) <;> cases p2 : plain (bytesOf b) <;>
    simp only [impl_ItemOk.f, impl_within.f, e1, e2, Option.bind_some, itemOk, ge_iff_le, c1, c2, c3, c4, c5, p1, p2, if_true, if_false, decide_true, decide_false, Bool.and_true, Bool.true_and, Bool.false_and, Bool.and_false, Bool.false_eq_true]
theorem impl_AsksOk_ev (l : List ByteArray) (hl : l.length ≤ 1048577) (hs : ∀ s ∈ l, s.size ≤ 9223372036854775807) : Ev (fun k => impl_AsksOk.f k l) (asksOk l) := by
  have key := Ev.scan (fun k (_ : Unit) i => impl_AsksOk.l0 k l l (l.length : Int) i) l.length (fun _ _ => True) (fun i _ => ((l.drop i).all fun s => itemOk s (⟨#[]⟩ : ByteArray) 0) && decide ((l.length : Int) ≤ 300))
    (fun _ _ => Ev.some_ fun k => by simp only [impl_AsksOk.l0]; rw [if_neg (by omega), List.drop_eq_nil_of_le (Nat.le_refl _)]; simp)
    (fun i _ hi _ => by
      have hd := drop_rdOf ByteArray.empty l i hi
      have hi1 := impl_ItemOk_ev (rdOf ByteArray.empty l (i : Int)) (⟨#[]⟩ : ByteArray) 0 (hs _ (rdOf_mem _ _ _ hi)) (by show 0 ≤ _; omega)
      rw [hd, List.all_cons]
      cases c : itemOk (rdOf ByteArray.empty l (i : Int)) (⟨#[]⟩ : ByteArray) 0 with
      | true => rw [c] at hi1; exact .inr ⟨(), trivial, by simp, (evP hi1).eve fun k e => by simp only [impl_AsksOk.l0, e, Option.bind_some, if_true]; rw [if_pos (by omega), if_pos (by omega), if_pos (by omega), w64s hi (by omega)]⟩
      | false => rw [c] at hi1; exact .inl ((evP hi1).ev fun k e => by simp only [impl_AsksOk.l0, e, Option.bind_some, Bool.false_eq_true, if_false]; rw [if_pos (by omega), if_pos (by omega), if_pos (by omega)]; simp)) 0 () (Nat.zero_le _) trivial
  simpa [impl_AsksOk.f, asksOk] using key
theorem slices_Contains_ev (l : List ByteArray) (x : ByteArray) (hl : l.length ≤ 1048576) : Ev (fun k => slices_Contains_string_string.f k l x) (hasT l x) := by
  have key : ∃ r, Ev (fun k => slices_Index_string_string.f k l x) r ∧ decide (r ≥ 0) = hasT l x := by
    have key := Ev.scan (fun k (_ : Unit) i => slices_Index_string_string.l0 k l x (l.length : Int) i) l.length (fun _ _ => True) (fun i _ => if hasT (l.drop i) x then (((l.drop i).findIdx (fun y => decide (y = x)) + i : Nat) : Int) else -1)
      (fun _ _ => Ev.some_ fun k => by simp only [slices_Index_string_string.l0]; rw [if_neg (by omega), List.drop_eq_nil_of_le (Nat.le_refl _)]; rfl)
      (fun i _ hi _ => by
        have hd := drop_rdOf ByteArray.empty l i hi
        have hs : ∀ k, slices_Index_string_string.l0 (k + 1) l x (l.length : Int) (i : Int) = if rdOf ByteArray.empty l (i : Int) = x then some (i : Int) else slices_Index_string_string.l0 k l x (l.length : Int) ((i + 1 : Nat) : Int) := fun k => by
          simp only [slices_Index_string_string.l0, toList_inj]; rw [if_pos (by omega), if_pos (by omega), if_pos (by omega), w64s hi (by omega)]
          simp only [eq_comm]
        rw [hd, hasT_cons, List.findIdx_cons]
        by_cases c : rdOf ByteArray.empty l (i : Int) = x
        · exact .inl (Ev.some_ fun k => by simp only [hs]; rw [if_pos c, decide_eq_true c]; simp)
        · exact .inr ⟨(), trivial, by
            rw [decide_eq_false c]; simp only [Bool.false_or, cond_false]
            split <;> omega, EvE.of fun k => by simp only [hs]; rw [if_neg c]⟩) 0 () (Nat.zero_le _) trivial
    refine ⟨_, (by simpa [slices_Index_string_string.f] using key), ?_⟩
    cases hasT l x with
    | true => simp only [if_true]; exact decide_eq_true (by omega)
    | false => rfl
  obtain ⟨r, hr, e⟩ := key
  rw [← e]
  exact (evP hr).ev fun k e1 => by simp only [slices_Contains_string_string.f, e1, Option.bind_some]
/-- The least of numbers. -/
def mins (b : Int) (l : List Int) : Int := l.foldl min b
theorem mins_cons (b x : Int) (l : List Int) : mins b (x :: l) = mins (min b x) l := rfl
theorem mins_le (l : List Int) : ∀ b, mins b l ≤ b := by
  induction l with
  | nil => intro b; exact Int.le_refl _
  | cons x l ih => intro b; rw [mins_cons]; have := ih (min b x); omega
theorem mins_mem (l : List Int) : ∀ b, ∀ x ∈ l, mins b l ≤ x := by
  induction l with
  | nil => intro b x hx; cases hx
  | cons y l ih =>
    intro b x hx
    rw [mins_cons]
    rcases List.mem_cons.1 hx with rfl | hx
    · have := mins_le l (min b x); omega
    · exact ih _ x hx
theorem mins_ge (l : List Int) (a : Int) : ∀ b, a ≤ b → (∀ x ∈ l, a ≤ x) → a ≤ mins b l := by
  induction l with
  | nil => intro b h _; exact h
  | cons y l ih => intro b h h2; rw [mins_cons]; exact ih _ (by have := h2 y List.mem_cons_self; omega) (fun x hx => h2 x (List.mem_cons_of_mem _ hx))
theorem mins_from (l : List Int) (a b : Int) (h : l ≠ []) (ha : ∀ x ∈ l, x ≤ a) (hb : ∀ x ∈ l, x ≤ b) : mins a l = mins b l := by
  cases l with
  | nil => exact absurd rfl h
  | cons x l => rw [mins_cons, mins_cons]; have := ha x List.mem_cons_self; have := hb x List.mem_cons_self; rw [show min a x = x by omega, show min b x = x by omega]
/-- A list without a place, and a key behind. -/
def goneAt (has : List ByteArray) (i : Nat) (x : ByteArray) : List ByteArray := has.take i ++ has.drop (i + 1) ++ [x]
/-- The least number of askings that aren't found. -/
def tryV (cap : Int) : List ByteArray → List ByteArray → Int
  | [], _ => 0
  | x :: r, has => if hasT has x then tryV cap r has else if (has.length : Int) < cap then 1 + tryV cap r (has ++ [x]) else mins ((r.length : Int) + 1) ((List.range has.length).map fun i => 1 + tryV cap r (goneAt has i x))
theorem tryV_bd (cap : Int) : ∀ (r has : List ByteArray), 0 ≤ tryV cap r has ∧ tryV cap r has ≤ (r.length : Int)
  | [], has => by simp [tryV]
  | x :: r, has => by
    rw [tryV]
    split
    · have := tryV_bd cap r has; simp only [List.length_cons]; omega
    · split
      · have := tryV_bd cap r (has ++ [x]); simp only [List.length_cons]; omega
      · constructor
        · refine mins_ge _ 0 _ (by omega) fun y hy => ?_
          obtain ⟨i, _, rfl⟩ := List.mem_map.1 hy
          have := tryV_bd cap r (goneAt has i x); omega
        · have := mins_le ((List.range has.length).map fun i => 1 + tryV cap r (goneAt has i x)) ((r.length : Int) + 1)
          simp only [List.length_cons]; omega
theorem goneAt_length (has : List ByteArray) (i : Nat) (x : ByteArray) (h : i < has.length) : (goneAt has i x).length = has.length := by
  unfold goneAt; simp; omega
theorem tryV_full (cap : Int) (x : ByteArray) (r has : List ByteArray) (b : Int) (h1 : hasT has x = false) (h2 : ¬ (has.length : Int) < cap) (h3 : has ≠ []) (hb : (r.length : Int) + 1 ≤ b) :
    tryV cap (x :: r) has = mins b ((List.range has.length).map fun i => 1 + tryV cap r (goneAt has i x)) := by
  rw [tryV, h1, if_neg (by simp), if_neg h2]
  have hx : ∀ y ∈ (List.range has.length).map fun i => 1 + tryV cap r (goneAt has i x), y ≤ (r.length : Int) + 1 := fun y hy => by
    obtain ⟨i, _, rfl⟩ := List.mem_map.1 hy
    have := tryV_bd cap r (goneAt has i x); omega
  refine mins_from _ _ _ (by simp; exact h3) hx fun y hy => ?_
  have := hx y hy; omega
theorem mn_min (a b : Int) : mn a b = min a b := by unfold mn; omega
theorem impl_try (cap : Int) (hc : 1 ≤ cap) : ∀ (d : Nat) (l has : List ByteArray), l.length ≤ d → l.length ≤ 1000 → has.length + d ≤ 2000 → Ev (fun k => impl_tried.f k l cap has) (tryV cap l has) := by
  intro d
  induction d using Nat.strongRecOn with
  | ind d ihd =>
  intro l has hld hl hh
  have key : ∀ (m i : Nat), l.length - i = m → i ≤ l.length → Ev (fun k => impl_tried.l0 k l cap has l (l.length : Int) (i : Int)) (tryV cap (l.drop i) has) := by
    intro m
    induction m with
    | zero =>
      intro i hm hi
      rw [List.drop_eq_nil_of_le (by omega)]
      refine Ev.up (g := fun _ => some _) (EvE.of fun k => ?_) (Ev.now _)
      simp only [impl_tried.l0]; rw [if_neg (by omega)]; rfl
    | succ m ihm =>
      intro i hm hi
      have hlt : i < l.length := by omega
      have hdr := drop_rdOf ByteArray.empty l i hlt
      have hl9 : l.length ≤ 9223372036854775807 := by omega
      have hhas := slices_Contains_ev has (rdOf ByteArray.empty l (i : Int)) (by omega)
      have hdl : (l.drop (i + 1)).length < d := by rw [List.length_drop]; omega
      have ih := fun (has : List ByteArray) (hh : has.length + (d - 1) ≤ 2000) => ihd (d - 1) (by omega) (l.drop (i + 1)) has (by omega) (by rw [List.length_drop]; omega) hh
      rw [hdr]
      cases c : hasT has (rdOf ByteArray.empty l (i : Int)) with
      | true =>
        rw [c] at hhas
        rw [tryV, c, if_pos rfl]
        refine Ev.up ((evP hhas).eve fun k e1 => ?_) (ihm (i + 1) (by omega) (by omega))
        simp only [impl_tried.l0, e1, Option.bind_some, w64s hlt hl9, if_true]
        rw [if_pos (by omega), if_pos (by omega), if_pos (by omega)]
      | false =>
        rw [c] at hhas
        by_cases c2 : (has.length : Int) < cap
        · rw [tryV, c, if_neg (by simp), if_pos c2]
          have hb := tryV_bd cap (l.drop (i + 1)) (has ++ [rdOf ByteArray.empty l (i : Int)])
          rw [List.length_drop] at hb
          refine Ev.up (g := fun _ => some _) ((evA hhas (evP (ih (has ++ [rdOf ByteArray.empty l (i : Int)]) (by simp; omega)))).eve fun k ⟨e1, e2⟩ => ?_) (Ev.now _)
          simp only [impl_tried.l0, e1, Option.bind_some, w64s hlt hl9, Bool.false_eq_true, if_false, List.nil_append, List.length_nil, Int.toNat_natCast]
          rw [if_pos (by omega), if_pos (by omega), if_pos (by omega), if_pos (by omega), if_pos (by omega), if_pos c2, if_pos (by omega), if_pos (by omega), e2, Option.bind_some, w64 (by omega) (by omega)]
        · have hne : has ≠ [] := fun h => by rw [h] at c2; simp at c2; omega
          rw [tryV_full cap _ _ has (l.length : Int) c c2 hne (by rw [List.length_drop]; omega)]
          have key := Ev.scan' (fun k b j => impl_tried.l1 k cap has (rdOf ByteArray.empty l (i : Int)) (l.drop (i + 1)) b (has.length : Int) j) has.length (fun _ _ => True)
            (fun j b => mins b (((List.range has.length).drop j).map fun j => 1 + tryV cap (l.drop (i + 1)) (goneAt has j (rdOf ByteArray.empty l (i : Int)))))
            (fun b _ => Ev.up (g := fun _ => some _) (EvE.of fun k => by simp only [impl_tried.l1]; rw [if_neg (by omega)]) (by rw [show (List.range has.length).drop has.length = [] from List.drop_eq_nil_of_le (by simp)]; exact Ev.now _))
            (fun j b hj _ => .inr ⟨min b (1 + tryV cap (l.drop (i + 1)) (goneAt has j (rdOf ByteArray.empty l (i : Int)))), trivial, by
                rw [List.drop_eq_getElem_cons (i := j) (by simpa using hj), List.map_cons, List.getElem_range, mins_cons], fun q hq => by
                have hb := tryV_bd cap (l.drop (i + 1)) (goneAt has j (rdOf ByteArray.empty l (i : Int)))
                rw [List.length_drop] at hb
                have hh9 : has.length ≤ 9223372036854775807 := by omega
                have hgl := goneAt_length has j (rdOf ByteArray.empty l (i : Int)) hj
                refine Ev.up ((evP (ih (goneAt has j (rdOf ByteArray.empty l (i : Int))) (by omega))).eve fun k e => ?_) hq
                simp only [impl_tried.l1, Option.bind_some, w64s hj hh9, List.nil_append, List.length_nil, Int.toNat_natCast]
                rw [if_pos (by omega), if_pos (by omega), if_pos (by omega), if_pos (by rw [List.length_take]; omega), if_pos (by omega), if_pos (by omega), if_pos (by rw [List.length_take, List.length_drop]; omega), if_pos (by rw [List.length_append, List.length_take, List.length_drop]; omega)]
                simp only [show has.take j ++ has.drop (j + 1) ++ [rdOf ByteArray.empty l (i : Int)] = goneAt has j (rdOf ByteArray.empty l (i : Int)) from rfl, e, Option.bind_some]
                rw [w64 (by omega) (by omega), mn_min]⟩) 0 (l.length : Int) (Nat.zero_le _) trivial
          simp only [List.drop_zero] at key
          refine Ev.up ((evP hhas).eve fun k e1 => ?_) key
          simp only [impl_tried.l0, e1, Option.bind_some, Bool.false_eq_true, if_false, w64s hlt hl9, Int.toNat_natCast]
          rw [if_pos (by omega), if_pos (by omega), if_pos (by omega), if_pos (by omega), if_pos (by omega), if_neg c2]; rfl
  exact Ev.up (EvE.of fun k => by simp only [impl_tried.f]; rfl) (key l.length 0 (by omega) (by omega))
theorem bgo_spec (l : List ByteArray) (x : Int) : ∀ (has : List ByteArray) (i : Nat) (b f : Int), (bgo l x has i b f = b ∧ ∀ y ∈ has, (nextAsk l y x : Int) ≤ f) ∨ (∃ j : Nat, ∃ h : j < has.length, bgo l x has i b f = ((i + j : Nat) : Int) ∧ f < (nextAsk l has[j] x : Int) ∧ ∀ y ∈ has, nextAsk l y x ≤ nextAsk l has[j] x) := by
  intro has
  induction has with
  | nil => intro i b f; exact .inl ⟨rfl, by simp⟩
  | cons y r ih =>
    intro i b f
    unfold bgo
    by_cases c : (nextAsk l y x : Int) > f
    · rw [if_pos c]
      rcases ih (i + 1) (i : Int) (nextAsk l y x : Int) with ⟨e, h⟩ | ⟨j, hj, e, h1, h2⟩
      · refine .inr ⟨0, by simp, by rw [e]; simp, by simpa using c, fun z hz => ?_⟩
        rcases List.mem_cons.1 hz with rfl | hz
        · simp
        · have := h z hz; simp only [List.getElem_cons_zero]; omega
      · refine .inr ⟨j + 1, by simp; omega, by rw [e]; congr 1; omega, by simp only [List.getElem_cons_succ]; omega, fun z hz => ?_⟩
        simp only [List.getElem_cons_succ]
        rcases List.mem_cons.1 hz with rfl | hz
        · omega
        · exact h2 z hz
    · rw [if_neg c]
      rcases ih (i + 1) b f with ⟨e, h⟩ | ⟨j, hj, e, h1, h2⟩
      · exact .inl ⟨e, fun z hz => (List.mem_cons.1 hz).elim (fun h3 => by rw [h3]; omega) (h z)⟩
      · refine .inr ⟨j + 1, by simp; omega, by rw [e]; congr 1; omega, by simpa using h1, fun z hz => ?_⟩
        simp only [List.getElem_cons_succ]
        rcases List.mem_cons.1 hz with rfl | hz
        · omega
        · exact h2 z hz
/-- Whom it is longest till is asked for. -/
theorem bgo_far (l : List ByteArray) (x : Int) (has : List ByteArray) (h : has ≠ []) : ∃ j : Nat, ∃ hj : j < has.length, bgo l x has 0 (-1) (-1) = (j : Int) ∧ ∀ y ∈ has, nextAsk l y x ≤ nextAsk l has[j] x := by
  rcases bgo_spec l x has 0 (-1) (-1) with ⟨_, h1⟩ | ⟨j, hj, e, _, h2⟩
  · cases has with
    | nil => exact absurd rfl h
    | cons y r => have := h1 y List.mem_cons_self; omega
  · exact ⟨j, hj, by rw [e]; simp, h2⟩
/-- The keys there are behind a miss. -/
def nextHas (l : List ByteArray) (cap : Int) (i : Nat) (y : ByteArray) (has : List ByteArray) : List ByteArray := if (has.length : Int) = cap then has.eraseIdx (bgo l ((i + 1 : Nat) : Int) has 0 (-1) (-1)).toNat ++ [y] else has ++ [y]
def hitsGo (l : List ByteArray) (cap : Int) : List ByteArray → Nat → List ByteArray → List Bool
  | [], _, _ => []
  | y :: r, i, has => if hasT has y then true :: hitsGo l cap r (i + 1) has else false :: hitsGo l cap r (i + 1) (nextHas l cap i y has)
theorem hitsGo_length (l : List ByteArray) (cap : Int) : ∀ (r : List ByteArray) (i : Nat) (has : List ByteArray), (hitsGo l cap r i has).length = r.length
  | [], _, _ => rfl
  | y :: r, i, has => by unfold hitsGo; split <;> simp [hitsGo_length l cap r]
theorem nextHas_length (l : List ByteArray) (cap : Int) (hc : 1 ≤ cap) (i : Nat) (y : ByteArray) (has : List ByteArray) (h : (has.length : Int) ≤ cap) : ((nextHas l cap i y has).length : Int) ≤ cap := by
  unfold nextHas
  by_cases c : (has.length : Int) = cap
  · rw [if_pos c]
    obtain ⟨j, hj, e, _⟩ := bgo_far l ((i + 1 : Nat) : Int) has (fun h => by rw [h] at c; simp at c; omega)
    rw [e, Int.toNat_natCast, List.length_append, List.length_eraseIdx_of_lt hj]; simp; omega
  · rw [if_neg c]; simp; omega
def hitsL (l : List ByteArray) (cap : Int) : List Bool := if asksOk l = true ∧ (1 ≤ cap ∧ cap ≤ 60) then hitsGo l cap l 0 [] else []
theorem hitsL_length (l : List ByteArray) (cap : Int) : (hitsL l cap).length ≤ l.length := by
  unfold hitsL; split
  · rw [hitsGo_length]; omega
  · simp
theorem impl_NextAsk_l0_ev (l : List ByteArray) (key : ByteArray) (hl : l.length ≤ 1048576) (i : Nat) (hi : i ≤ l.length) : Ev (fun k => impl_NextAsk.l0 k l key (i : Int)) (((i + (l.drop i).findIdx (fun y => decide (y = key)) : Nat)) : Int) := by
  refine Ev.scan (fun k (_ : Unit) i => impl_NextAsk.l0 k l key i) l.length (fun _ _ => True) (fun i _ => ((i + (l.drop i).findIdx (fun y => decide (y = key)) : Nat) : Int)) ?_ ?_ i () hi trivial
  · intro _ _
    exact Ev.some_ fun k => by simp only [impl_NextAsk.l0]; rw [if_neg (by omega), List.drop_eq_nil_of_le (Nat.le_refl _)]; try simp
  · intro i _ hi _
    have hd := drop_rdOf ByteArray.empty l i hi
    have hs : ∀ k, impl_NextAsk.l0 (k + 1) l key (i : Int) = if rdOf ByteArray.empty l (i : Int) = key then some (i : Int) else impl_NextAsk.l0 k l key ((i + 1 : Nat) : Int) := fun k => by
      simp only [impl_NextAsk.l0, toList_inj]; rw [if_pos (by omega), if_pos (by omega), w64s hi (by omega)]
    by_cases c : rdOf ByteArray.empty l (i : Int) = key
    · exact .inl (Ev.some_ fun k => by simp only [hs]; rw [if_pos c, hd, List.findIdx_cons, decide_eq_true c]; simp)
    · exact .inr ⟨(), trivial, by rw [hd, List.findIdx_cons, decide_eq_false c]; simp only [cond_false]; omega, EvE.of fun k => by simp only [hs]; rw [if_neg c]⟩
theorem impl_NextAsk_l0_ev' (l : List ByteArray) (key : ByteArray) (hl : l.length ≤ 1048576) (x : Int) (h0 : 0 ≤ x) : Ev (fun k => impl_NextAsk.l0 k l key x) (nextAsk l key x : Int) := by
  obtain ⟨i, rfl⟩ := Int.eq_ofNat_of_zero_le h0
  by_cases hi : i ≤ l.length
  · refine Ev.ofE (EvE.of fun _ => rfl) (?_ : Ev _ _)
    have := impl_NextAsk_l0_ev l key hl i hi
    unfold nextAsk
    rw [show min (max 0 (i : Int)).toNat l.length = i by omega]
    exact this
  · refine Ev.up (g := fun _ => some (l.length : Int)) (EvE.of fun k => by simp only [impl_NextAsk.l0]; rw [if_neg (by omega)]) ?_
    unfold nextAsk
    rw [show min (max 0 (i : Int)).toNat l.length = l.length by omega, List.drop_eq_nil_of_le (Nat.le_refl _)]
    exact Ev.now _
theorem impl_NextAsk_ev (l : List ByteArray) (key : ByteArray) (x : Int) (hl : l.length ≤ 1048576) : Ev (fun k => impl_NextAsk.f k l key x) (nextAsk l key x : Int) := by
  have h := impl_NextAsk_l0_ev' l key hl (mx 0 x) (by unfold mx; split <;> omega)
  have e : nextAsk l key (mx 0 x) = nextAsk l key x := by unfold nextAsk mx; split <;> congr 3 <;> omega
  rw [e] at h
  exact h
theorem impl_BestGo_ev (l has : List ByteArray) (x : Int) (hl : l.length ≤ 1048576) (hh : has.length ≤ 1048576) : Ev (fun k => impl_BestGo.f k l has x) (bgo l x has 0 (-1) (-1)) := by
  have key := Ev.scan (fun k (s : Int × Int) i => impl_BestGo.l0 k l x s.1 s.2 has (has.length : Int) i) has.length (fun _ _ => True) (fun i s => bgo l x (has.drop i) i s.1 s.2)
    (fun s _ => Ev.some_ fun k => by simp only [impl_BestGo.l0]; rw [if_neg (by omega), List.drop_eq_nil_of_le (Nat.le_refl _)]; rfl)
    (fun i s hi _ => by
      have hd := drop_rdOf ByteArray.empty has i hi
      have hn := impl_NextAsk_ev l (rdOf ByteArray.empty has (i : Int)) x hl
      rw [hd, bgo]
      by_cases c : (nextAsk l (rdOf ByteArray.empty has (i : Int)) x : Int) > s.2
      · exact .inr ⟨((i : Int), (nextAsk l (rdOf ByteArray.empty has (i : Int)) x : Int)), trivial, by rw [if_pos c], (evP hn).eve fun k e => by
          simp only [impl_BestGo.l0, e, Option.bind_some]; rw [if_pos (by omega), if_pos (by omega), if_pos (by omega), if_pos c, w64s hi (by omega)]⟩
      · exact .inr ⟨s, trivial, by rw [if_neg c], (evP hn).eve fun k e => by
          simp only [impl_BestGo.l0, e, Option.bind_some]; rw [if_pos (by omega), if_pos (by omega), if_pos (by omega), if_neg c, w64s hi (by omega)]⟩) 0 (-1, -1) (Nat.zero_le _) trivial
  simpa [impl_BestGo.f] using key
theorem impl_hits_l0 (l : List ByteArray) (hl : l.length ≤ 1048576) (cap : Int) (h1 : 1 ≤ cap) (h2 : cap ≤ 60) : Ev (fun k => impl_BestHits.l0 k l cap [] [] l (l.length : Int) 0) (hitsGo l cap l 0 []) := by
  have key := Ev.scan (fun k (s : List Bool × List ByteArray) i => impl_BestHits.l0 k l cap s.1 s.2 l (l.length : Int) i) l.length (fun i s => s.1.length = i ∧ (s.2.length : Int) ≤ cap) (fun i s => s.1 ++ hitsGo l cap (l.drop i) i s.2)
    (fun s hs => Ev.some_ fun k => by simp only [impl_BestHits.l0]; rw [if_neg (by omega), List.drop_eq_nil_of_le (Nat.le_refl _)]; simp [hitsGo])
    (fun i s hi hs => by
      have hd := drop_rdOf ByteArray.empty l i hi
      have hl9 : l.length ≤ 9223372036854775807 := by omega
      have hc := slices_Contains_ev s.2 (rdOf ByteArray.empty l (i : Int)) (by omega)
      have hnl := nextHas_length l cap h1 i (rdOf ByteArray.empty l (i : Int)) s.2 hs.2
      have g1 : (i : Int) < (l.length : Int) := by omega
      have g2 : (0 : Int) ≤ (i : Int) := by omega
      have g3 : s.1.length < 140737488355328 := by omega
      rw [hd]
      cases c : hasT s.2 (rdOf ByteArray.empty l (i : Int)) with
      | true =>
        rw [c] at hc
        refine .inr ⟨(s.1 ++ [true], s.2), ⟨by simp [hs.1], hs.2⟩, by rw [hitsGo, c]; simp, (evP hc).eve fun k e => ?_⟩
        simp only [impl_BestHits.l0, e, Option.bind_some, if_true, w64s hi hl9, if_pos g1, if_pos g2, if_pos g3]
      | false =>
        rw [c] at hc
        refine .inr ⟨(s.1 ++ [false], nextHas l cap i (rdOf ByteArray.empty l (i : Int)) s.2), ⟨by simp [hs.1], hnl⟩, by rw [hitsGo, c]; simp, ?_⟩
        by_cases c2 : (s.2.length : Int) = cap
        · obtain ⟨j, hj, e2, _⟩ := bgo_far l ((i + 1 : Nat) : Int) s.2 (fun h => by rw [h] at c2; simp at c2; omega)
          have hb := impl_BestGo_ev l s.2 ((i + 1 : Nat) : Int) hl (by omega)
          rw [e2] at hb
          have hnx : nextHas l cap i (rdOf ByteArray.empty l (i : Int)) s.2 = s.2.eraseIdx j ++ [rdOf ByteArray.empty l (i : Int)] := by unfold nextHas; rw [if_pos c2, e2, Int.toNat_natCast]
          have hdel : slices_Delete_string_string.f s.2 (j : Int) (wrap64 ((j : Int) + 1)) = some (s.2.eraseIdx j) := by
            unfold slices_Delete_string_string.f; rw [w64 (by omega) (by omega), if_pos ⟨by omega, by omega, rfl⟩, Int.toNat_natCast]
          have g4 : (s.2.eraseIdx j).length < 8796093022208 := by rw [List.length_eraseIdx_of_lt hj]; omega
          refine (evA hc (evP hb)).eve fun k ⟨e, e3⟩ => ?_
          simp only [impl_BestHits.l0, e, e3, hdel, hnx, Option.bind_some, Bool.false_eq_true, if_false, w64s hi hl9, if_pos g1, if_pos g2, if_pos g3, if_pos g4, if_pos c2]
        · have hnx : nextHas l cap i (rdOf ByteArray.empty l (i : Int)) s.2 = s.2 ++ [rdOf ByteArray.empty l (i : Int)] := by unfold nextHas; rw [if_neg c2]
          have g4 : s.2.length < 8796093022208 := by omega
          refine (evP hc).eve fun k e => ?_
          simp only [impl_BestHits.l0, e, hnx, Option.bind_some, Bool.false_eq_true, if_false, w64s hi hl9, if_pos g1, if_pos g2, if_pos g3, if_pos g4, if_neg c2]) 0 ([], []) (Nat.zero_le _) ⟨rfl, by simp; omega⟩
  simpa using key
theorem impl_BestHits_ev (l : List ByteArray) (hl : l.length ≤ 1048576) (hs : ∀ s ∈ l, s.size ≤ maxLen) (cap : Int) : Ev (fun k => impl_BestHits.f k l cap) (hitsL l cap) := by
  have ha := impl_AsksOk_ev l (by omega) hs
  have h0 : Ev (fun k => impl_BestHits.j0 k l cap true) [] := Ev.up (g := fun _ => some []) (EvE.of fun k => by simp only [impl_BestHits.j0, if_true]) (Ev.now _)
  unfold hitsL
  cases c : asksOk l with
  | false =>
    rw [c] at ha
    rw [if_neg (by simp)]
    exact Ev.ofE ((evP ha).eve fun k e => by simp only [impl_BestHits.f, e, Option.bind_some, Bool.false_eq_true, if_false]) h0
  | true =>
    rw [c] at ha
    by_cases c1 : 1 ≤ cap ∧ cap ≤ 60
    · rw [if_pos ⟨rfl, c1⟩]
      refine Ev.ofE (g := fun k => impl_BestHits.j0 k l cap false) ((evP ha).eve fun k e => ?_) (Ev.up (g := fun k => impl_BestHits.l0 k l cap [] [] l (l.length : Int) 0) (EvE.of fun k => by simp only [impl_BestHits.j0, Bool.false_eq_true, if_false]) (impl_hits_l0 l hl cap c1.1 c1.2))
      simp only [impl_BestHits.f, e, Option.bind_some, if_true, impl_within.f]
      rw [if_pos (by omega), Option.bind_some, decide_eq_true c1.2]; rfl
    · rw [if_neg (fun h => c1 h.2)]
      refine Ev.ofE ((evP ha).eve fun k e => ?_) h0
      simp only [impl_BestHits.f, e, Option.bind_some, if_true, impl_within.f]
      by_cases c2 : cap ≥ 1
      · rw [if_pos c2, Option.bind_some, decide_eq_false (by omega)]; rfl
      · rw [if_neg c2, Option.bind_some]; rfl
def missN (l : List Bool) : Nat := l.countP fun h => !h
theorem hitsIn_ev (l : List Bool) (h : l.length ≤ 1048576) : Ev (fun k => impl_hitsIn.f k l) ((l.length : Int) - (missN l : Int)) := by
  have key := Ev.scan (fun k (n : Int) i => impl_hitsIn.l0 k n l (l.length : Int) i) l.length (fun i n => 0 ≤ n ∧ n ≤ (i : Int)) (fun i n => n + (((l.drop i).length : Int) - (missN (l.drop i) : Int)))
    (fun n hn => Ev.some_ fun k => by simp only [impl_hitsIn.l0]; rw [if_neg (by omega), List.drop_eq_nil_of_le (Nat.le_refl _)]; simp [missN])
    (fun i n hi hn => by
      have hd := drop_rdOf false l i hi
      have hl9 : l.length ≤ 9223372036854775807 := by omega
      have g1 : (i : Int) < (l.length : Int) := by omega
      have g2 : (0 : Int) ≤ (i : Int) := by omega
      rw [hd]
      cases c : rdOf false l (i : Int) with
      | true =>
        have b1 : -9223372036854775808 ≤ n + 1 := by omega
        have b2 : n + 1 ≤ 9223372036854775807 := by omega
        exact .inr ⟨n + 1, by omega, by simp [missN]; omega, EvE.of fun k => by simp only [impl_hitsIn.l0, c, if_true, if_pos g1, if_pos g2, w64s hi hl9, w64 b1 b2]⟩
      | false => exact .inr ⟨n, by omega, by simp [missN]; omega, EvE.of fun k => by simp only [impl_hitsIn.l0, c, Bool.false_eq_true, if_false, if_pos g1, if_pos g2, w64s hi hl9]⟩) 0 0 (Nat.zero_le _) (by omega)
  simpa [impl_hitsIn.f] using key
theorem impl_BestMisses_ev (l : List ByteArray) (hl : l.length ≤ 1048576) (hs : ∀ s ∈ l, s.size ≤ maxLen) (cap : Int) : Ev (fun k => impl_BestMisses.f k l cap) (missN (hitsL l cap) : Int) := by
  have hwl := hitsL_length l cap
  have hc : missN (hitsL l cap) ≤ (hitsL l cap).length := List.countP_le_length
  refine (evA (impl_BestHits_ev l hl hs cap) (evP (hitsIn_ev (hitsL l cap) (by omega)))).ev fun k ⟨e1, e2⟩ => ?_
  simp only [impl_BestMisses.f, e1, e2, Option.bind_some]
  rw [w64 (by omega) (by omega)]; congr 1; omega
namespace Bm
variable {K : Type}
/-- What asking for all may cost, from what the cache has on. -/
inductive Cost (cap : Nat) : List K → List K → Nat → Prop
  | nil (H : List K) : Cost cap [] H 0
  | hit (x : K) (r H : List K) (n : Nat) : x ∈ H → Cost cap r H n → Cost cap (x :: r) H n
  | room (x : K) (r H : List K) (n : Nat) : x ∉ H → H.length < cap → Cost cap r (x :: H) n → Cost cap (x :: r) H (n + 1)
  | full (x z : K) (r H G : List K) (n : Nat) : x ∉ H → H.length = cap → H.Perm (z :: G) → Cost cap r (x :: G) n → Cost cap (x :: r) H (n + 1)

theorem Cost.perm {cap : Nat} {r H : List K} {n : Nat} (h : Cost cap r H n) : ∀ {H' : List K}, H.Perm H' → Cost cap r H' n := by
  induction h with
  | nil H => intro H' _; exact .nil H'
  | hit x r H n hx _ ih => intro H' p; exact .hit x r H' n (p.mem_iff.1 hx) (ih p)
  | room x r H n hx hl _ ih => intro H' p; exact .room x r H' n (fun h => hx (p.mem_iff.2 h)) (by rw [← p.length_eq]; exact hl) (ih (p.cons x))
  | full x z r H G n hx hl hp hc _ => intro H' p; exact .full x z r H' G n (fun h => hx (p.mem_iff.2 h)) (by rw [← p.length_eq]; exact hl) (p.symm.trans hp) hc

theorem Cost.le {cap : Nat} {r H : List K} {n : Nat} (h : Cost cap r H n) : n ≤ r.length := by
  induction h <;> simp only [List.length_nil, List.length_cons] <;> omega

/-- At most m. -/
def Pay (cap : Nat) (r H : List K) (m : Nat) : Prop := ∃ n, n ≤ m ∧ Cost cap r H n
theorem Pay.perm {cap : Nat} {r H H' : List K} {m : Nat} (h : Pay cap r H m) (p : H.Perm H') : Pay cap r H' m := by
  obtain ⟨n, hn, hc⟩ := h; exact ⟨n, hn, hc.perm p⟩
theorem Pay.mono {cap : Nat} {r H : List K} {m m' : Nat} (h : Pay cap r H m) (le : m ≤ m') : Pay cap r H m' := by
  obtain ⟨n, hn, hc⟩ := h; exact ⟨n, by omega, hc⟩
theorem Pay.hit {cap : Nat} {x : K} {r H : List K} {m : Nat} (hx : x ∈ H) (h : Pay cap r H m) : Pay cap (x :: r) H m := by
  obtain ⟨n, hn, hc⟩ := h; exact ⟨n, hn, .hit _ _ _ _ hx hc⟩
theorem Pay.room {cap : Nat} {x : K} {r H : List K} {m : Nat} (hx : x ∉ H) (hl : H.length < cap) (h : Pay cap r (x :: H) m) : Pay cap (x :: r) H (m + 1) := by
  obtain ⟨n, hn, hc⟩ := h; exact ⟨n + 1, by omega, .room _ _ _ _ hx hl hc⟩
theorem Pay.full {cap : Nat} {x z : K} {r H G : List K} {m : Nat} (hx : x ∉ H) (hl : H.length = cap) (hp : H.Perm (z :: G)) (h : Pay cap r (x :: G) m) : Pay cap (x :: r) H (m + 1) := by
  obtain ⟨n, hn, hc⟩ := h; exact ⟨n + 1, by omega, .full _ _ _ _ _ _ hx hl hp hc⟩

theorem swap3 {a b : K} {l : List K} : (a :: b :: l).Perm (b :: a :: l) := List.Perm.swap b a l
variable [DecidableEq K]
theorem perm_two {a b : K} {A G : List K} (h : (a :: A).Perm (b :: G)) : (a = b ∧ A.Perm G) ∨ (a ≠ b ∧ ∃ S, A.Perm (b :: S) ∧ G.Perm (a :: S)) := by
  by_cases e : a = b
  · subst e; exact .inl ⟨rfl, h.cons_inv⟩
  · refine .inr ⟨e, A.erase b, ?_, ?_⟩
    · have : b ∈ A := by
        have := h.mem_iff.2 (List.mem_cons_self : b ∈ b :: G)
        rcases List.mem_cons.1 this with h1 | h1
        · exact absurd h1.symm e
        · exact h1
      exact List.perm_cons_erase this
    · have hb : b ∈ A := by
        have := h.mem_iff.2 (List.mem_cons_self : b ∈ b :: G)
        rcases List.mem_cons.1 this with h1 | h1
        · exact absurd h1.symm e
        · exact h1
      have h2 : (b :: G).Perm (b :: (a :: A.erase b)) := h.symm.trans (((List.perm_cons_erase hb).cons a).trans (List.Perm.swap b a _))
      exact h2.cons_inv


/-- One more, one other: at most one parts them. -/
theorem near (cap : Nat) (r : List K) :
    (∀ (A : List K) (z : K) (n : Nat), A.Nodup → z ∉ A → A.length < cap → Cost cap r (z :: A) n → Pay cap r A (n + 1)) ∧
    (∀ (A : List K) (z : K) (n : Nat), A.Nodup → z ∉ A → A.length < cap → Cost cap r A n → Pay cap r (z :: A) n) ∧
    (∀ (A : List K) (s q : K) (n : Nat), A.Nodup → s ∉ A → q ∉ A → s ≠ q → A.length < cap → Cost cap r (q :: A) n → Pay cap r (s :: A) (n + 1)) := by
  induction r with
  | nil => exact ⟨fun A z n _ _ _ _ => ⟨0, by omega, .nil _⟩, fun A z n _ _ _ _ => ⟨0, by omega, .nil _⟩, fun A s q n _ _ _ _ _ _ => ⟨0, by omega, .nil _⟩⟩
  | cons y r ih =>
    obtain ⟨ihB, ihD, ihC⟩ := ih
    have nin : ∀ {x y : K} {A : List K}, x ≠ y → x ∉ A → x ∉ y :: A := fun h1 h2 h => (List.mem_cons.1 h).elim h1 h2
    refine ⟨?_, ?_, ?_⟩
    · intro A z n hA hz hl hc
      cases hc with
      | hit _ _ _ _ hy hc =>
        rcases List.mem_cons.1 hy with rfl | hy
        · exact (Pay.room hz hl ⟨n, Nat.le_refl _, hc⟩)
        · exact Pay.hit hy (ihB A z n hA hz hl hc)
      | room _ _ _ n hy hl2 hc =>
        have hyA : y ∉ A := fun h => hy (List.mem_cons_of_mem _ h)
        have hyz : y ≠ z := fun h => hy (h ▸ List.mem_cons_self)
        simp only [List.length_cons] at hl2
        exact Pay.room hyA hl (ihB (y :: A) z n (List.nodup_cons.2 ⟨hyA, hA⟩) (nin (Ne.symm hyz) hz) (by simpa using hl2) (hc.perm swap3))
      | full _ g _ _ G n hy hl2 hp hc =>
        have hyA : y ∉ A := fun h => hy (List.mem_cons_of_mem _ h)
        have hyz : y ≠ z := fun h => hy (h ▸ List.mem_cons_self)
        simp only [List.length_cons] at hl2
        refine Pay.room hyA hl ?_
        rcases perm_two hp with ⟨rfl, hpp⟩ | ⟨hzg, S, h1, h2⟩
        · exact ⟨n, by omega, hc.perm (hpp.symm.cons y)⟩
        · have hgS := List.nodup_cons.1 (h1.nodup_iff.1 hA)
          have hzS : z ∉ S := fun h => hz (h1.mem_iff.2 (List.mem_cons_of_mem _ h))
          have hgy : g ≠ y := fun h => hyA (h1.mem_iff.2 (h ▸ List.mem_cons_self))
          have hyS : y ∉ S := fun h => hyA (h1.mem_iff.2 (List.mem_cons_of_mem _ h))
          have := ihC (y :: S) g z n (List.nodup_cons.2 ⟨hyS, hgS.2⟩) (nin hgy hgS.1) (nin (Ne.symm hyz) hzS) (fun h => hzg h.symm) (by have := h1.length_eq; simp at this ⊢; omega) (hc.perm ((h2.cons y).trans swap3))
          exact this.perm (swap3.trans (h1.symm.cons y))
    · intro A z n hA hz hl hc
      cases hc with
      | hit _ _ _ _ hy hc => exact Pay.hit (List.mem_cons_of_mem _ hy) (ihD A z n hA hz hl hc)
      | room _ _ _ n hy hl2 hc =>
        by_cases hyz : y = z
        · subst hyz; exact Pay.hit List.mem_cons_self ⟨n, by omega, hc⟩
        · by_cases hf : A.length + 1 < cap
          · exact Pay.room (nin hyz hy) (by simpa using hf) ((ihD (y :: A) z n (List.nodup_cons.2 ⟨hy, hA⟩) (nin (Ne.symm hyz) hz) (by simpa using hf) hc).perm swap3)
          · exact Pay.full (nin hyz hy) (by simp; omega) (List.Perm.refl _) ⟨n, Nat.le_refl _, hc⟩
      | full _ g _ _ G n hy hl2 hp hc => omega
    · intro A s q n hA hs hq hsq hl hc
      cases hc with
      | hit _ _ _ _ hy hc =>
        rcases List.mem_cons.1 hy with rfl | hy
        · by_cases hf : A.length + 1 < cap
          · refine Pay.room (nin (Ne.symm hsq) hq) (by simpa using hf) ?_
            exact (ihD (y :: A) s n (List.nodup_cons.2 ⟨hq, hA⟩) (nin hsq hs) (by simpa using hf) hc).perm swap3
          · exact Pay.full (nin (Ne.symm hsq) hq) (by simp; omega) (List.Perm.refl _) ⟨n, Nat.le_refl _, hc⟩
        · exact Pay.hit (List.mem_cons_of_mem _ hy) (ihC A s q n hA hs hq hsq hl hc)
      | room _ _ _ n hy hl2 hc =>
        have hyA : y ∉ A := fun h => hy (List.mem_cons_of_mem _ h)
        have hyq : y ≠ q := fun h => hy (h ▸ List.mem_cons_self)
        simp only [List.length_cons] at hl2
        by_cases hys : y = s
        · subst hys
          exact Pay.hit List.mem_cons_self ((ihB (y :: A) q n (List.nodup_cons.2 ⟨hs, hA⟩) (nin (Ne.symm hsq) hq) (by simpa using hl2) (hc.perm swap3)).mono (by omega))
        · exact Pay.room (nin hys hyA) (by simpa using hl2) ((ihC (y :: A) s q n (List.nodup_cons.2 ⟨hyA, hA⟩) (nin (Ne.symm hys) hs) (nin (Ne.symm hyq) hq) hsq (by simpa using hl2) (hc.perm swap3)).perm swap3)
      | full _ g _ _ G n hy hl2 hp hc =>
        have hyA : y ∉ A := fun h => hy (List.mem_cons_of_mem _ h)
        have hyq : y ≠ q := fun h => hy (h ▸ List.mem_cons_self)
        simp only [List.length_cons] at hl2
        rcases perm_two hp with ⟨rfl, hpp⟩ | ⟨hqg, S, h1, h2⟩
        · by_cases hys : y = s
          · subst hys; exact Pay.hit List.mem_cons_self ⟨n, by omega, hc.perm (hpp.symm.cons y)⟩
          · exact Pay.full (nin hys hyA) (by simpa using hl2) (List.Perm.refl _) ⟨n, by omega, hc.perm (hpp.symm.cons y)⟩
        · have hgS := List.nodup_cons.1 (h1.nodup_iff.1 hA)
          have hqS : q ∉ S := fun h => hq (h1.mem_iff.2 (List.mem_cons_of_mem _ h))
          have hsS : s ∉ S := fun h => hs (h1.mem_iff.2 (List.mem_cons_of_mem _ h))
          have hgs : g ≠ s := fun h => hs (h1.mem_iff.2 (h ▸ List.mem_cons_self))
          have hgy : g ≠ y := fun h => hyA (h1.mem_iff.2 (h ▸ List.mem_cons_self))
          have hyS : y ∉ S := fun h => hyA (h1.mem_iff.2 (List.mem_cons_of_mem _ h))
          have hlS : (y :: S).length < cap := by have := h1.length_eq; simp at this ⊢; omega
          by_cases hys : y = s
          · subst hys
            have := ihC (y :: S) g q n (List.nodup_cons.2 ⟨hyS, hgS.2⟩) (nin hgy hgS.1) (nin (Ne.symm hyq) hqS) (fun h => hqg h.symm) hlS (hc.perm ((h2.cons y).trans swap3))
            exact Pay.hit List.mem_cons_self ((this.perm (swap3.trans (h1.symm.cons y))).mono (by omega))
          · have := ihC (y :: S) s q n (List.nodup_cons.2 ⟨hyS, hgS.2⟩) (nin (Ne.symm hys) hsS) (nin (Ne.symm hyq) hqS) hsq hlS (hc.perm ((h2.cons y).trans swap3))
            refine Pay.full (nin hys hyA) (by simpa using hl2) ((h1.cons s).trans swap3) (this.perm swap3)
/-- When a key is asked for next (the length where it isn't). -/
def nxt (x : K) : List K → Nat
  | [] => 0
  | y :: r => if y = x then 0 else nxt x r + 1
/-- Whom it is longer till is asked for, that one is the worse to have. -/
theorem sooner (cap : Nat) (r : List K) : ∀ (A : List K) (p q : K) (n : Nat), A.Nodup → p ∉ A → q ∉ A → p ≠ q → A.length < cap → nxt p r ≤ nxt q r → Cost cap r (q :: A) n → Pay cap r (p :: A) n := by
  induction r with
  | nil => exact fun A p q n _ _ _ _ _ _ _ => ⟨0, by omega, .nil _⟩
  | cons y r ih =>
    have nin : ∀ {x y : K} {A : List K}, x ≠ y → x ∉ A → x ∉ y :: A := fun h1 h2 h => (List.mem_cons.1 h).elim h1 h2
    intro A p q n hA hp hq hpq hl hnx hc
    have nearr := near cap r
    have hyq : y ≠ q := by
      rintro rfl
      simp only [nxt, if_true] at hnx
      rw [if_neg (Ne.symm hpq)] at hnx; omega
    by_cases hyp : y = p
    · subst hyp
      cases hc with
      | hit _ _ _ _ hy hc =>
        rcases List.mem_cons.1 hy with h | h
        · exact absurd h hpq
        · exact absurd h hp
      | room _ _ _ n hy hl2 hc =>
        simp only [List.length_cons] at hl2
        exact Pay.hit List.mem_cons_self (nearr.1 (y :: A) q n (List.nodup_cons.2 ⟨hp, hA⟩) (nin (Ne.symm hpq) hq) (by simpa using hl2) (hc.perm swap3))
      | full _ g _ _ G n hy hl2 hpm hc =>
        simp only [List.length_cons] at hl2
        rcases perm_two hpm with ⟨rfl, hpp⟩ | ⟨hqg, S, h1, h2⟩
        · exact Pay.hit List.mem_cons_self ⟨n, by omega, hc.perm (hpp.symm.cons y)⟩
        · have hgS := List.nodup_cons.1 (h1.nodup_iff.1 hA)
          have hqS : q ∉ S := fun h => hq (h1.mem_iff.2 (List.mem_cons_of_mem _ h))
          have hgy : g ≠ y := fun h => hp (h1.mem_iff.2 (h ▸ List.mem_cons_self))
          have hyS : y ∉ S := fun h => hp (h1.mem_iff.2 (List.mem_cons_of_mem _ h))
          have hlS : (y :: S).length < cap := by have := h1.length_eq; simp at this ⊢; omega
          have := nearr.2.2 (y :: S) g q n (List.nodup_cons.2 ⟨hyS, hgS.2⟩) (nin hgy hgS.1) (nin (Ne.symm hyq) hqS) (fun h => hqg h.symm) hlS (hc.perm ((h2.cons y).trans swap3))
          exact Pay.hit List.mem_cons_self (this.perm (swap3.trans (h1.symm.cons y)))
    · have hnx' : nxt p r ≤ nxt q r := by
        simp only [nxt] at hnx
        rw [if_neg hyp, if_neg hyq] at hnx; omega
      cases hc with
      | hit _ _ _ _ hy hc =>
        rcases List.mem_cons.1 hy with h | h
        · exact absurd h hyq
        · exact Pay.hit (List.mem_cons_of_mem _ h) (ih A p q n hA hp hq hpq hl hnx' hc)
      | room _ _ _ n hy hl2 hc =>
        have hyA : y ∉ A := fun h => hy (List.mem_cons_of_mem _ h)
        simp only [List.length_cons] at hl2
        exact Pay.room (nin hyp hyA) (by simpa using hl2) ((ih (y :: A) p q n (List.nodup_cons.2 ⟨hyA, hA⟩) (nin (Ne.symm hyp) hp) (nin (Ne.symm hyq) hq) hpq (by simpa using hl2) hnx' (hc.perm swap3)).perm swap3)
      | full _ g _ _ G n hy hl2 hpm hc =>
        have hyA : y ∉ A := fun h => hy (List.mem_cons_of_mem _ h)
        simp only [List.length_cons] at hl2
        rcases perm_two hpm with ⟨rfl, hpp⟩ | ⟨hqg, S, h1, h2⟩
        · exact Pay.full (nin hyp hyA) (by simpa using hl2) (List.Perm.refl _) ⟨n, by omega, hc.perm (hpp.symm.cons y)⟩
        · have hgS := List.nodup_cons.1 (h1.nodup_iff.1 hA)
          have hqS : q ∉ S := fun h => hq (h1.mem_iff.2 (List.mem_cons_of_mem _ h))
          have hpS : p ∉ S := fun h => hp (h1.mem_iff.2 (List.mem_cons_of_mem _ h))
          have hyS : y ∉ S := fun h => hyA (h1.mem_iff.2 (List.mem_cons_of_mem _ h))
          have hlS : (y :: S).length < cap := by have := h1.length_eq; simp at this ⊢; omega
          have := ih (y :: S) p q n (List.nodup_cons.2 ⟨hyS, hgS.2⟩) (nin (Ne.symm hyp) hpS) (nin (Ne.symm hyq) hqS) hpq hlS hnx' (hc.perm ((h2.cons y).trans swap3))
          exact Pay.full (nin hyp hyA) (by simpa using hl2) ((h1.cons p).trans swap3) (this.perm swap3)
/-- Letting go whom it is longest till is asked for is as good as any. -/
theorem farthest (cap : Nat) (x f : K) (r H G : List K) (n : Nat) (hH : H.Nodup) (hx : x ∉ H) (hl : H.length = cap) (hp : H.Perm (f :: G)) (hfar : ∀ y ∈ H, nxt y r ≤ nxt f r)
    (hc : Cost cap (x :: r) H n) : ∃ m, n = m + 1 ∧ Pay cap r (x :: G) m := by
  cases hc with
  | hit _ _ _ _ hy _ => exact absurd hy hx
  | room _ _ _ n _ hl2 _ => omega
  | full _ g _ _ G' n _ _ hp' hc =>
    refine ⟨n, rfl, ?_⟩
    rcases perm_two (hp.symm.trans hp') with ⟨rfl, h⟩ | ⟨hfg, S, h1, h2⟩
    · exact ⟨n, Nat.le_refl _, hc.perm (h.symm.cons x)⟩
    · -- H = f :: g :: S; G = g :: S; G' = f :: S
      have hn := hp.nodup_iff.1 hH
      have hn1 := List.nodup_cons.1 hn
      have hn2 := List.nodup_cons.1 (h1.nodup_iff.1 hn1.2)
      have hfS : f ∉ S := fun h => hn1.1 (h1.mem_iff.2 (List.mem_cons_of_mem _ h))
      have hxS : x ∉ S := fun h => hx (hp.mem_iff.2 (List.mem_cons_of_mem _ (h1.mem_iff.2 (List.mem_cons_of_mem _ h))))
      have hxg : g ≠ x := fun h => hx (hp'.mem_iff.2 (h ▸ List.mem_cons_self))
      have hxf : f ≠ x := fun h => hx (hp.mem_iff.2 (h ▸ List.mem_cons_self))
      have nin : ∀ {x y : K} {A : List K}, x ≠ y → x ∉ A → x ∉ y :: A := fun h1 h2 h => (List.mem_cons.1 h).elim h1 h2
      have hlS : (x :: S).length < cap := by
        have e1 := hp.length_eq; have e2 := h1.length_eq
        simp only [List.length_cons] at e1 e2 ⊢; omega
      have := sooner cap r (x :: S) g f n (List.nodup_cons.2 ⟨hxS, hn2.2⟩) (nin hxg hn2.1) (nin hxf hfS) (Ne.symm hfg) hlS (hfar g (hp'.mem_iff.2 List.mem_cons_self)) (hc.perm ((h2.cons x).trans swap3))
      exact this.perm (swap3.trans (h1.symm.cons x))
end Bm
open Bm
theorem hasT_iff (l : List ByteArray) (x : ByteArray) : hasT l x = false ↔ x ∉ l := by
  rw [← Bool.not_eq_true, hasT_mem]
theorem perm_snoc {α : Type} (x : α) (l : List α) : (l ++ [x]).Perm (x :: l) := by
  have := List.perm_append_comm (l₁ := l) (l₂ := [x]); exact this
theorem erase_perm (has : List ByteArray) (i : Nat) (h : i < has.length) : has.Perm (has[i] :: has.eraseIdx i) := by
  rw [List.eraseIdx_eq_take_drop_succ]
  have e : has.take i ++ has[i] :: has.drop (i + 1) = has := by rw [← List.drop_eq_getElem_cons h, List.take_append_drop]
  have p : (has.take i ++ has[i] :: has.drop (i + 1)).Perm (has[i] :: (has.take i ++ has.drop (i + 1))) := List.perm_middle
  rw [e] at p
  exact p
theorem goneAt_eq (has : List ByteArray) (i : Nat) (x : ByteArray) : goneAt has i x = has.eraseIdx i ++ [x] := by
  unfold goneAt; rw [List.eraseIdx_eq_take_drop_succ]
theorem mins_attained (l : List Int) : ∀ b, mins b l = b ∨ mins b l ∈ l := by
  induction l with
  | nil => intro b; exact .inl rfl
  | cons x l ih =>
    intro b
    rw [mins_cons]
    rcases ih (min b x) with h | h
    · rw [h]
      by_cases c : b ≤ x
      · left; omega
      · right; rw [show min b x = x by omega]; exact List.mem_cons_self
    · exact .inr (List.mem_cons_of_mem _ h)
theorem nodup_next (has : List ByteArray) (i : Nat) (x : ByteArray) (h : has.Nodup) (hx : x ∉ has) (hi : i < has.length) : (has.eraseIdx i ++ [x]).Nodup := by
  have h1 := (erase_perm has i hi).nodup_iff.1 h
  have h2 := (List.nodup_cons.1 h1).2
  refine (perm_snoc x _).nodup_iff.2 (List.nodup_cons.2 ⟨fun h3 => hx ((erase_perm has i hi).mem_iff.2 (List.mem_cons_of_mem _ h3)), h2⟩)
/-- The least is a cost, and no cost is less. -/
theorem tryV_least (cap : Nat) (hc : 1 ≤ cap) : ∀ (r has : List ByteArray), has.Nodup → has.length ≤ cap → (∃ n : Nat, tryV (cap : Int) r has = (n : Int) ∧ Cost cap r has n) ∧ ∀ n, Cost cap r has n → tryV (cap : Int) r has ≤ (n : Int) := by
  intro r
  induction r with
  | nil => intro has _ _; exact ⟨⟨0, rfl, .nil _⟩, fun n _ => by simp [tryV]⟩
  | cons x r ih =>
    intro has hn hl
    by_cases hx : x ∈ has
    · have ht : tryV (cap : Int) (x :: r) has = tryV (cap : Int) r has := by rw [tryV, hasT_mem.2 hx, if_pos rfl]
      rw [ht]
      obtain ⟨⟨n, e, hC⟩, hlow⟩ := ih has hn hl
      refine ⟨⟨n, e, .hit _ _ _ _ hx hC⟩, fun m hm => ?_⟩
      cases hm with
      | hit _ _ _ _ _ hm => exact hlow m hm
      | room _ _ _ _ h => exact absurd hx h
      | full _ _ _ _ _ _ h => exact absurd hx h
    · have hf := (hasT_iff has x).2 hx
      by_cases hroom : has.length < cap
      · have ht : tryV (cap : Int) (x :: r) has = 1 + tryV (cap : Int) r (has ++ [x]) := by rw [tryV, hf, if_neg (by simp), if_pos (by omega)]
        have hnd : (has ++ [x]).Nodup := (perm_snoc x has).nodup_iff.2 (List.nodup_cons.2 ⟨hx, hn⟩)
        obtain ⟨⟨n, e, hC⟩, hlow⟩ := ih (has ++ [x]) hnd (by simp; omega)
        rw [ht]
        refine ⟨⟨n + 1, by rw [e]; omega, .room _ _ _ _ hx hroom (hC.perm (perm_snoc x has))⟩, fun m hm => ?_⟩
        cases hm with
        | hit _ _ _ _ h => exact absurd h hx
        | room _ _ _ m _ _ hm => have := hlow m (hm.perm (perm_snoc x has).symm); omega
        | full _ _ _ _ _ _ h => omega
      · have hne : has ≠ [] := fun h => by rw [h] at hroom; simp at hroom; omega
        have ht := tryV_full (cap : Int) x r has ((r.length : Int) + 1) hf (by omega) hne (Int.le_refl _)
        have hel : ∀ i, i < has.length → (∃ n : Nat, tryV (cap : Int) r (goneAt has i x) = (n : Int) ∧ Cost cap r (goneAt has i x) n) ∧ ∀ n, Cost cap r (goneAt has i x) n → tryV (cap : Int) r (goneAt has i x) ≤ (n : Int) := fun i hi =>
          ih (goneAt has i x) (by rw [goneAt_eq]; exact nodup_next has i x hn hx hi) (by rw [goneAt_length has i x hi]; exact hl)
        rw [ht]
        have hpos : 0 < has.length := List.length_pos_iff.2 hne
        constructor
        · have hat : ∃ i, i < has.length ∧ mins ((r.length : Int) + 1) ((List.range has.length).map fun i => 1 + tryV (cap : Int) r (goneAt has i x)) = 1 + tryV (cap : Int) r (goneAt has i x) := by
            rcases mins_attained ((List.range has.length).map fun i => 1 + tryV (cap : Int) r (goneAt has i x)) ((r.length : Int) + 1) with h | h
            · refine ⟨0, hpos, ?_⟩
              have h2 := mins_mem ((List.range has.length).map fun i => 1 + tryV (cap : Int) r (goneAt has i x)) ((r.length : Int) + 1) (1 + tryV (cap : Int) r (goneAt has 0 x)) (List.mem_map.2 ⟨0, List.mem_range.2 hpos, rfl⟩)
              have h3 := (tryV_bd (cap : Int) r (goneAt has 0 x)).2
              omega
            · obtain ⟨i, hi, e⟩ := List.mem_map.1 h
              exact ⟨i, List.mem_range.1 hi, e.symm⟩
          obtain ⟨i, hi, e⟩ := hat
          obtain ⟨⟨n, en, hC⟩, _⟩ := hel i hi
          refine ⟨n + 1, by rw [e, en]; omega, .full x has[i] r has (has.eraseIdx i) n hx (by omega) (erase_perm has i hi) (hC.perm ?_)⟩
          rw [goneAt_eq]; exact perm_snoc x _
        · intro m hm
          cases hm with
          | hit _ _ _ _ h => exact absurd h hx
          | room _ _ _ _ _ h => omega
          | full _ z _ _ G m _ _ hp hm =>
            have hz : z ∈ has := hp.mem_iff.2 List.mem_cons_self
            obtain ⟨i, hi, rfl⟩ := List.getElem_of_mem hz
            have hG : (has.eraseIdx i).Perm G := ((erase_perm has i hi).symm.trans hp).cons_inv
            have h1 := (hel i hi).2 m (hm.perm (by rw [goneAt_eq]; exact ((perm_snoc x _).trans (hG.cons x)).symm))
            have h2 := mins_mem ((List.range has.length).map fun i => 1 + tryV (cap : Int) r (goneAt has i x)) ((r.length : Int) + 1) (1 + tryV (cap : Int) r (goneAt has i x)) (List.mem_map.2 ⟨i, List.mem_range.2 hi, rfl⟩)
            omega
theorem nxt_find (key : ByteArray) : ∀ r : List ByteArray, nxt key r = r.findIdx (fun y => decide (y = key))
  | [] => rfl
  | y :: r => by
    rw [List.findIdx_cons, nxt, nxt_find key r]
    by_cases c : y = key
    · rw [if_pos c, decide_eq_true c]; rfl
    · rw [if_neg c, decide_eq_false c]; rfl
theorem nextAsk_nxt (l : List ByteArray) (key : ByteArray) (i : Nat) (h : i ≤ l.length) : nextAsk l key (i : Int) = i + nxt key (l.drop i) := by
  unfold nextAsk
  rw [show min (max 0 (i : Int)).toNat l.length = i by omega, nxt_find]
/-- What the farthest-first cache misses is a cost, and no cost is less. -/
theorem hits_least (l : List ByteArray) (cap : Nat) (hc : 1 ≤ cap) : ∀ (d i : Nat) (has : List ByteArray), l.length - i = d → i ≤ l.length → has.Nodup → has.length ≤ cap → Cost cap (l.drop i) has (missN (hitsGo l (cap : Int) (l.drop i) i has)) ∧ ∀ n, Cost cap (l.drop i) has n → missN (hitsGo l (cap : Int) (l.drop i) i has) ≤ n := by
  intro d
  induction d with
  | zero =>
    intro i has hd hi _ _
    rw [List.drop_eq_nil_of_le (by omega)]
    exact ⟨.nil _, fun n _ => Nat.zero_le _⟩
  | succ d ih =>
    intro i has hd hi hn hl
    have hlt : i < l.length := by omega
    rw [List.drop_eq_getElem_cons hlt]
    generalize hx0 : l[i] = x
    rw [hitsGo]
    by_cases hx : x ∈ has
    · rw [hasT_mem.2 hx, if_pos rfl]
      obtain ⟨hC, hlow⟩ := ih (i + 1) has (by omega) (by omega) hn hl
      have e : missN (true :: hitsGo l (cap : Int) (l.drop (i + 1)) (i + 1) has) = missN (hitsGo l (cap : Int) (l.drop (i + 1)) (i + 1) has) := by simp [missN]
      rw [e]
      refine ⟨.hit _ _ _ _ hx hC, fun m hm => ?_⟩
      cases hm with
      | hit _ _ _ _ _ hm => exact hlow m hm
      | room _ _ _ _ h => exact absurd hx h
      | full _ _ _ _ _ _ h => exact absurd hx h
    · have hf := (hasT_iff has x).2 hx
      rw [hf, if_neg (by simp)]
      have e : ∀ q, missN (false :: q) = missN q + 1 := fun q => by simp [missN]
      rw [e]
      by_cases hroom : has.length < cap
      · have hnx : nextHas l (cap : Int) i x has = has ++ [x] := by unfold nextHas; rw [if_neg (by omega)]
        rw [hnx]
        have hnd : (has ++ [x]).Nodup := (perm_snoc x has).nodup_iff.2 (List.nodup_cons.2 ⟨hx, hn⟩)
        obtain ⟨hC, hlow⟩ := ih (i + 1) (has ++ [x]) (by omega) (by omega) hnd (by simp; omega)
        refine ⟨.room _ _ _ _ hx hroom (hC.perm (perm_snoc x has)), fun m hm => ?_⟩
        cases hm with
        | hit _ _ _ _ h => exact absurd h hx
        | room _ _ _ m _ _ hm => have := hlow m (hm.perm (perm_snoc x has).symm); omega
        | full _ _ _ _ _ _ h => omega
      · have hne : has ≠ [] := fun h => by rw [h] at hroom; simp at hroom; omega
        obtain ⟨j, hj, ej, hfar⟩ := bgo_far l ((i + 1 : Nat) : Int) has hne
        have hnx : nextHas l (cap : Int) i x has = has.eraseIdx j ++ [x] := by unfold nextHas; rw [if_pos (by omega), ej, Int.toNat_natCast]
        rw [hnx]
        obtain ⟨hC, hlow⟩ := ih (i + 1) (has.eraseIdx j ++ [x]) (by omega) (by omega) (nodup_next has j x hn hx hj) (by rw [List.length_append, List.length_eraseIdx_of_lt hj]; simp; omega)
        refine ⟨.full x has[j] _ has (has.eraseIdx j) _ hx (by omega) (erase_perm has j hj) (hC.perm (perm_snoc x _)), fun m hm => ?_⟩
        obtain ⟨m', rfl, n, hle, hn'⟩ := farthest cap x has[j] (l.drop (i + 1)) has (has.eraseIdx j) m hn hx (by omega) (erase_perm has j hj) (fun y hy => by
          have h1 := hfar y hy
          rw [nextAsk_nxt l y (i + 1) (by omega), nextAsk_nxt l has[j] (i + 1) (by omega)] at h1
          omega) hm
        have := hlow n (hn'.perm (perm_snoc x _).symm)
        omega
theorem best_is_least (l : List ByteArray) (cap : Nat) (hc : 1 ≤ cap) : tryV (cap : Int) l [] = (missN (hitsGo l (cap : Int) l 0 []) : Int) := by
  obtain ⟨⟨n, e, hC⟩, hlow⟩ := tryV_least cap hc l [] List.nodup_nil (by simp)
  have h := hits_least l cap hc l.length 0 [] (by omega) (by omega) List.nodup_nil (by simp)
  rw [List.drop_zero] at h
  have h1 := hlow _ h.1
  have h2 := h.2 n hC
  omega
theorem key_ok : ∀ x ∈ keys8, itemOk x (⟨#[]⟩ : ByteArray) 0 = true := by decide +kernel
theorem keys_ok (l : List ByteArray) (h : ∀ x ∈ l, x ∈ keys8) (hl : l.length ≤ 300) : asksOk l = true := by
  unfold asksOk
  rw [Bool.and_eq_true, List.all_eq_true]
  exact ⟨fun x hx => key_ok x (h x hx), decide_eq_true (by omega)⟩
theorem keys_size (l : List ByteArray) (h : ∀ x ∈ l, x ∈ keys8) : ∀ s ∈ l, s.size ≤ maxLen := fun s hs => by
  have := (itemOk_sizes (key_ok s (h s hs))).2.1
  unfold maxLen; omega
theorem num_some (c : List Int) (hc : c.length ≤ 1048576) : ∃ b : Nat, b < 3 ∧ Ev (fun k => spec_MakeNum.f k c 3) (b : Int) := by
  obtain ⟨h, hnew⟩ := new_some c hc
  obtain ⟨b, i1, h1, e1, b0, b1, _⟩ := below_some c 0 (wrap64 (h + 777)) 3 ⟨by omega, by omega, hc⟩ (by omega) (by omega)
  obtain ⟨m, rfl⟩ : ∃ m : Nat, b = (m : Int) := ⟨b.toNat, by omega⟩
  refine ⟨m, by omega, (evP hnew).ev fun k e2 => ?_⟩
  unfold spec_MakeNum.f
  rw [e2, Option.bind_some]
  exact (congrArg (fun z => z.bind fun bt => some bt.1) e1).trans rfl
theorem sample_keys : ∀ x ∈ [(⟨#[97]⟩ : ByteArray), (⟨#[98]⟩ : ByteArray), (⟨#[97]⟩ : ByteArray), (⟨#[99]⟩ : ByteArray), (⟨#[97]⟩ : ByteArray), (⟨#[98]⟩ : ByteArray)], x ∈ keys8 := by
  have h : ([(⟨#[97]⟩ : ByteArray), (⟨#[98]⟩ : ByteArray), (⟨#[97]⟩ : ByteArray), (⟨#[99]⟩ : ByteArray), (⟨#[97]⟩ : ByteArray), (⟨#[98]⟩ : ByteArray)].all fun x => hasT keys8 x) = true := by decide +kernel
  exact fun x hx => hasT_mem.1 (List.all_eq_true.1 h x hx)
theorem sample : missN (hitsL [(⟨#[97]⟩ : ByteArray), (⟨#[98]⟩ : ByteArray), (⟨#[97]⟩ : ByteArray), (⟨#[99]⟩ : ByteArray), (⟨#[97]⟩ : ByteArray), (⟨#[98]⟩ : ByteArray)] 2) = 4 := by decide +kernel
theorem impl_Try_ev (l : List ByteArray) (hk : ∀ x ∈ l, x ∈ keys8) (hl : l.length ≤ 9) (m : Int) (h1 : 1 ≤ m) (h2 : m ≤ 60) : Ev (fun k => impl_TryMisses.f k l m) (tryV m l [], true) := by
  have ha := impl_AsksOk_ev l (by omega) (keys_size l hk)
  rw [keys_ok l hk (by omega)] at ha
  have ht := impl_try m h1 l.length l [] (by omega) (by omega) (by simp; omega)
  refine (evA ha (evP ht)).ev fun k ⟨e1, e2⟩ => ?_
  simp only [impl_TryMisses.f, impl_within.f, e1, Option.bind_some, if_true]
  rw [if_pos (by omega), Option.bind_some, if_pos (decide_eq_true (by omega)), if_neg (by omega), e2, Option.bind_some]
theorem FnBest : DFnBest.Pure := by
  intro c ⟨hc, hw⟩
  by_cases hl : (c.length : Int) > 1048576
  · exact ⟨0, by simp only [laws_FnBest.f]; rw [if_pos hl]⟩
  · obtain ⟨l, hl9, hk, hmk⟩ := asks_some c (by omega) 9 (by omega)
    obtain ⟨b, hb, hnum⟩ := num_some c (by omega)
    have hcap : wrap64 (1 + (b : Int)) = ((b + 1 : Nat) : Int) := by rw [w64 (by omega) (by omega)]; omega
    have q1 := impl_Try_ev l hk hl9 ((b + 1 : Nat) : Int) (by omega) (by omega)
    have q2 := impl_BestMisses_ev l (by omega) (keys_size l hk) ((b + 1 : Nat) : Int)
    have q3 := impl_BestHits_ev l (by omega) (keys_size l hk) ((b + 1 : Nat) : Int)
    have hH : hitsL l ((b + 1 : Nat) : Int) = hitsGo l ((b + 1 : Nat) : Int) l 0 [] := by unfold hitsL; rw [if_pos ⟨keys_ok l hk (by omega), by omega, by omega⟩]
    have hbest := best_is_least l (b + 1) (by omega)
    rw [hH, ← hbest] at q2
    rw [hH] at q3
    have hlen := hitsGo_length l ((b + 1 : Nat) : Int) l 0 []
    have q4 := impl_BestMisses_ev [(⟨#[97]⟩ : ByteArray), (⟨#[98]⟩ : ByteArray), (⟨#[97]⟩ : ByteArray), (⟨#[99]⟩ : ByteArray), (⟨#[97]⟩ : ByteArray), (⟨#[98]⟩ : ByteArray)] (by simp) (keys_size _ sample_keys) 2
    rw [sample] at q4
    have hless : (if (l.length : Int) > 0 then (1 : Int) else 0) ≤ tryV ((b + 1 : Nat) : Int) l [] := by
      cases l with
      | nil => simp [tryV]
      | cons x r =>
        have e : tryV ((b + 1 : Nat) : Int) (x :: r) [] = 1 + tryV ((b + 1 : Nat) : Int) r ([] ++ [x]) := by
          rw [tryV, show hasT [] x = false from rfl, if_neg (by simp), if_pos (by rw [List.length_nil]; omega)]
        have := (tryV_bd ((b + 1 : Nat) : Int) r ([] ++ [x])).1
        rw [e]; split <;> omega
    obtain ⟨k, e1, e2, e3, e4, e5, e6⟩ := (evA hmk (evA hnum (evA q1 (evA q2 (evA q3 (evP q4)))))).ex
    refine ⟨k, ?_⟩
    have e1' : spec_MakeAsks.f k c 9 = some l := e1
    simp only [laws_FnBest.f, e1', e2, Option.bind_some, hcap, e3, e4, e5, e6, if_true, laws_less.f]
    rw [if_neg hl]
    by_cases c0 : (l.length : Int) > 0
    · rw [if_pos c0] at hless
      rw [if_pos (decide_eq_true c0), Option.bind_some, if_pos (by omega), if_pos (by rw [hlen])]; rfl
    · rw [if_neg c0] at hless
      rw [if_neg (by simp only [decide_eq_true_eq]; exact c0), Option.bind_some, if_pos (by omega), if_pos (by rw [hlen])]; rfl
end Go.Proofs.Ytllaoamaplepmaa.Pure
