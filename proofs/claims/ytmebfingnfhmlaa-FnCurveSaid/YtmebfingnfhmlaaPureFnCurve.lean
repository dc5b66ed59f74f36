/- With more room what isn't found doesn't rise, and with room for all it is each key once; bins count each asking once: true whatever is drawn. No condition. -/
import Derived.Test.YtmebfingnfhmlaaDFnCurve
import Derived.Test.YtmebfingnfhmlaaLm
namespace Go.Proofs.Ytmebfingnfhmlaa.Pure
open Go.RowKit Go.Proofs.Ytmebfingnfhmlaa.QFnCurve Go.Proofs.YtmebfingnfhmlaaW.PrintWords Go.Proofs.YtmebfingnfhmlaaW.PrintLast Go.Proofs.YtmebfingnfhmlaaW.PrintMore Go.Proofs.Ytmebfingnfhmlaa.Lm
set_option linter.unusedSimpArgs false
set_option linter.unusedVariables false
theorem and255 (x : Int) : 0 ≤ Go.bits .and .i64 x 255 ∧ Go.bits .and .i64 x 255 ≤ 255 := by
  unfold Go.bits
  rw [Go.IntKind.wrap_i64]
  have h : ((BitVec.ofInt Go.IntKind.i64.bits x &&& BitVec.ofInt Go.IntKind.i64.bits 255).toNat) ≤ 255 := by
    rw [BitVec.toNat_and]; exact Nat.le_trans Nat.and_le_right (by decide)
  simp only
  omega
/-- A place in a code. -/
def At (c : List Int) (i : Int) : Prop := 0 ≤ i ∧ i ≤ (c.length : Int) ∧ c.length ≤ 1048576
theorem byte_some (c : List Int) (i h : Int) (hi : At c i) : ∃ b i' h', spec_l01Byte.f c i h = some (b, i', h') ∧ 0 ≤ b ∧ b ≤ 255 ∧ At c i' := by
  obtain ⟨h0, h1, h2⟩ := hi
  simp only [spec_l01Byte.f]
  by_cases c1 : i < (c.length : Int)
  · rw [if_pos c1, if_pos h0]
    refine ⟨_, _, _, rfl, (and255 _).1, (and255 _).2, ?_⟩
    rw [w64 (by omega) (by omega)]
    exact ⟨by omega, by omega, h2⟩
  · rw [if_neg c1]
    exact ⟨_, _, _, rfl, (and255 _).1, (and255 _).2, h0, h1, h2⟩
theorem below_some (c : List Int) (i h n : Int) (hi : At c i) (h1 : 1 ≤ n) (h2 : n ≤ 256) : ∃ b i' h', spec_l01Below.f c i h n = some (b, i', h') ∧ 0 ≤ b ∧ b < n ∧ At c i' := by
  obtain ⟨b, i', h', e, b0, b1, ha⟩ := byte_some c i h hi
  refine ⟨b.tmod n, i', h', ?_, ?_, ?_, ha⟩
  · simp only [spec_l01Below.f, e, Option.bind_some]
    rw [if_neg (by omega), if_pos h2, if_neg (by omega)]
  · rw [Int.tmod_eq_emod_of_nonneg b0]; exact Int.emod_nonneg _ (by omega)
  · rw [Int.tmod_eq_emod_of_nonneg b0]; exact Int.emod_lt_of_pos _ (by omega)
theorem new_some (c : List Int) (hc : c.length ≤ 1048576) : ∃ h, Ev (fun k => spec_l01New.f k c) (c, 0, h) := by
  obtain ⟨r, ⟨h, rfl⟩, hr⟩ := Ev.scanX (fun k (s : Int) i => spec_l01New.l0 k c s i) c.length (fun _ _ => True) (fun r => ∃ h, r = (c, 0, h))
    (fun s _ => ⟨(c, 0, s), ⟨s, rfl⟩, Ev.some_ fun k => by simp only [spec_l01New.l0]; rw [if_neg (by omega)]⟩)
    (fun i s hi _ => by
      by_cases c1 : (i : Int) < 4000
      · exact .inr ⟨_, trivial, EvE.of fun k => by simp only [spec_l01New.l0]; rw [if_pos (by omega), if_pos c1, if_pos (by omega), w64s hi (by omega)]⟩
      · exact .inl ⟨(c, 0, s), ⟨s, rfl⟩, Ev.some_ fun k => by simp only [spec_l01New.l0]; rw [if_pos (by omega), if_neg c1]⟩) 0 (wrap64 (774119 + (c.length : Int))) (Nat.zero_le _) trivial
  exact ⟨h, by simpa [spec_l01New.f] using hr⟩
def keys8 : List ByteArray := [(⟨#[97]⟩ : ByteArray), (⟨#[98]⟩ : ByteArray), (⟨#[99]⟩ : ByteArray), (⟨#[100]⟩ : ByteArray), (⟨#[101]⟩ : ByteArray), (⟨#[102]⟩ : ByteArray), (⟨#[103]⟩ : ByteArray), (⟨#[104]⟩ : ByteArray)]
theorem key_some (c : List Int) (i h : Int) (hi : At c i) : ∃ b i' h', spec_l10Key.f c i h = some (b, i', h') ∧ b ∈ keys8 ∧ At c i' := by
  obtain ⟨j, i', h', e, j0, j1, ha⟩ := below_some c i h 8 hi (by omega) (by omega)
  obtain ⟨m, rfl⟩ : ∃ m : Nat, j = (m : Int) := ⟨j.toNat, by omega⟩
  refine ⟨rdOf ByteArray.empty keys8 (m : Int), i', h', ?_, rdOf_mem _ _ _ (by show m < 8; omega), ha⟩
  have e' : spec_l01Below.f c i h ((keys8.length : Nat) : Int) = some ((m : Int), i', h') := e
  have hl : ((keys8.length : Nat) : Int) = 8 := rfl
  have hf : spec_l01Of.f c i h keys8 = some (rdOf ByteArray.empty keys8 (m : Int), i', h') := by
    simp only [spec_l01Of.f, e', Option.bind_some]
    rw [if_pos (by omega), if_pos (by omega)]
  show (spec_l01Of.f c i h keys8).bind _ = _
  rw [hf, Option.bind_some]
theorem asks_loop (c : List Int) (n : Nat) (hn : n ≤ 200) : ∀ (m : Nat) (a : List ByteArray) (i h : Int), m ≤ n → a.length + m ≤ n → (∀ x ∈ a, x ∈ keys8) → At c i → ∃ r : List ByteArray × Int × Int, (r.1.length ≤ n ∧ ∀ x ∈ r.1, x ∈ keys8) ∧ Ev (fun k => spec_l12Asks.l0 k a (m : Int) c i h) r := by
  intro m
  induction m with
  | zero =>
    intro a i h _ ha hk _
    exact ⟨(a, i, h), ⟨by simp only; omega, hk⟩, Ev.up (g := fun _ => some _) (EvE.of fun k => by simp only [spec_l12Asks.l0]; rw [if_neg (by omega)]) (Ev.now _)⟩
  | succ m ih =>
    intro a i h hm ha hk hi
    obtain ⟨b, i1, h1, e1, b0, b1, hi1⟩ := below_some c i h 3 hi (by omega) (by omega)
    have hw : wrap64 (((m + 1 : Nat) : Int) - 1) = (m : Int) := by rw [w64 (by omega) (by omega)]; omega
    have again : ∃ r : List ByteArray × Int × Int, (r.1.length ≤ n ∧ ∀ x ∈ r.1, x ∈ keys8) ∧ Ev (fun k => spec_l12Asks.j1 k a ((m + 1 : Nat) : Int) (decide (b = 0) && decide ((a.length : Int) > 0)) c i1 h1) r := by
      cases cb : decide (b = 0) && decide ((a.length : Int) > 0) with
      | true =>
        simp only [Bool.and_eq_true, decide_eq_true_eq] at cb
        obtain ⟨j, i2, h2, e2, j0, j1, hi2⟩ := below_some c i1 h1 (a.length : Int) hi1 (by omega) (by omega)
        obtain ⟨q, rfl⟩ : ∃ q : Nat, j = (q : Int) := ⟨j.toNat, by omega⟩
        have hmem := rdOf_mem ByteArray.empty a q (by omega)
        obtain ⟨r, hr, hE⟩ := ih (a ++ [rdOf ByteArray.empty a (q : Int)]) i2 h2 (by omega) (by simp; omega) (fun x hx => (List.mem_append.1 hx).elim (hk x) (fun h => by rw [List.mem_singleton.1 h]; exact hk _ hmem)) hi2
        refine ⟨r, hr, Ev.up (EvE.of fun k => ?_) hE⟩
        simp only [spec_l12Asks.j1, if_true, e2, Option.bind_some, hw]
        rw [if_pos (by clear hw; omega), if_pos (by clear hw; omega), if_pos (by clear hw; omega)]
      | false =>
        obtain ⟨x, i2, h2, e2, hx, hi2⟩ := key_some c i1 h1 hi1
        obtain ⟨r, hr, hE⟩ := ih (a ++ [x]) i2 h2 (by omega) (by simp; omega) (fun y hy => (List.mem_append.1 hy).elim (hk y) (fun h => by rw [List.mem_singleton.1 h]; exact hx)) hi2
        refine ⟨r, hr, Ev.up (EvE.of fun k => ?_) hE⟩
        simp only [spec_l12Asks.j1, Bool.false_eq_true, if_false, e2, Option.bind_some, hw]
        rw [if_pos (by clear hw; omega)]
    obtain ⟨r, hr, hE⟩ := again
    refine ⟨r, hr, Ev.up (EvE.of fun k => ?_) hE⟩
    simp only [spec_l12Asks.l0, e1, Option.bind_some]
    rw [if_pos (by clear hw; omega)]
    by_cases c1 : b = 0
    · rw [if_pos c1, decide_eq_true c1, Bool.true_and]
    · rw [if_neg c1, decide_eq_false c1, Bool.false_and]
theorem asks_f (c : List Int) (hc : c.length ≤ 1048576) (n : Nat) (hn : n ≤ 200) (h : Int) : ∃ r : List ByteArray × Int × Int, (r.1.length ≤ n ∧ ∀ x ∈ r.1, x ∈ keys8) ∧ Ev (fun k => spec_l12Asks.f k c 0 h (n : Int)) r := by
  obtain ⟨b, i1, h1, e1, b0, b1, hi1⟩ := below_some c 0 h ((n : Int) + 1) ⟨by omega, by omega, hc⟩ (by omega) (by omega)
  obtain ⟨m, rfl⟩ : ∃ m : Nat, b = (m : Int) := ⟨b.toNat, by omega⟩
  obtain ⟨r, hr, hE⟩ := asks_loop c n hn m [] i1 h1 (by omega) (by simp; omega) (by simp) hi1
  have hw : wrap64 ((n : Int) + 1) = (n : Int) + 1 := w64 (by omega) (by omega)
  refine ⟨r, hr, Ev.congr (fun k => ?_) hE⟩
  unfold spec_l12Asks.f
  rw [hw, e1, Option.bind_some]
theorem asks_some (c : List Int) (hc : c.length ≤ 1048576) (n : Nat) (hn : n ≤ 200) : ∃ l : List ByteArray, l.length ≤ n ∧ (∀ x ∈ l, x ∈ keys8) ∧ Ev (fun k => spec_MakeAsks.f k c (n : Int)) l := by
  obtain ⟨h, hnew⟩ := new_some c hc
  obtain ⟨r, hr, hE⟩ := asks_f c hc n hn (wrap64 (h + 17))
  refine ⟨r.1, hr.1, hr.2, (evA hnew (evP hE)).ev fun k ⟨e2, e3⟩ => ?_⟩
  unfold spec_MakeAsks.f
  rw [e2, Option.bind_some]
  exact (congrArg (fun z => z.bind fun bt => some bt.1) e3).trans rfl
theorem slices_Contains_ev (l : List ByteArray) (x : ByteArray) (hl : l.length ≤ 1048576) : Ev (fun k => slices_Contains_string_string.f k l x) (hasT l x) := by
  have key : ∃ r, Ev (fun k => slices_Index_string_string.f k l x) r ∧ decide (r ≥ 0) = hasT l x := by
    have key := Ev.scan (fun k (_ : Unit) i => slices_Index_string_string.l0 k l x (l.length : Int) i) l.length (fun _ _ => True) (fun i _ => if hasT (l.drop i) x then (((l.drop i).findIdx (fun y => decide (y = x)) + i : Nat) : Int) else -1)
      (fun _ _ => Ev.some_ fun k => by simp only [slices_Index_string_string.l0]; rw [if_neg (by omega), List.drop_eq_nil_of_le (Nat.le_refl _)]; rfl)
      (fun i _ hi _ => by
        have hd := drop_rdOf ByteArray.empty l i hi
        have hs : ∀ k, slices_Index_string_string.l0 (k + 1) l x (l.length : Int) (i : Int) = if rdOf ByteArray.empty l (i : Int) = x then some (i : Int) else slices_Index_string_string.l0 k l x (l.length : Int) ((i + 1 : Nat) : Int) := fun k => by
          simp only [slices_Index_string_string.l0, toList_inj]; rw [if_pos (by omega), if_pos (by omega), if_pos (by omega), w64s hi (by omega)]
          simp only [eq_comm]
        rw [hd, hasT_cons, List.findIdx_cons]
        by_cases c : rdOf ByteArray.empty l (i : Int) = x
        · exact .inl (Ev.some_ fun k => by simp only [hs]; rw [if_pos c, decide_eq_true c]; simp)
        · exact .inr ⟨(), trivial, by
            rw [decide_eq_false c]; simp only [Bool.false_or, cond_false]
            split <;> omega, EvE.of fun k => by simp only [hs]; rw [if_neg c]⟩) 0 () (Nat.zero_le _) trivial
    refine ⟨_, (by simpa [slices_Index_string_string.f] using key), ?_⟩
    cases hasT l x with
    | true => simp only [if_true]; exact decide_eq_true (by omega)
    | false => rfl
  obtain ⟨r, hr, e⟩ := key
  rw [← e]
  exact (evP hr).ev fun k e1 => by simp only [slices_Contains_string_string.f, e1, Option.bind_some]
theorem impl_Distinct_ev (l : List ByteArray) (hl : l.length ≤ 1048576) : Ev (fun k => impl_Distinct.f k l) (dist [] l) := by
  have key := Ev.scan (fun k a i => impl_Distinct.l0 k a l (l.length : Int) i) l.length (fun i a => a.length ≤ i) (fun i a => dist a (l.drop i))
    (fun a ha => Ev.some_ fun k => by simp only [impl_Distinct.l0]; rw [if_neg (by omega), List.drop_eq_nil_of_le (Nat.le_refl _)]; rfl)
    (fun i a hi ha => by
      have hd := drop_rdOf ByteArray.empty l i hi
      have hh := slices_Contains_ev a (rdOf ByteArray.empty l (i : Int)) (by omega)
      rw [hd, dist]
      cases c : hasT a (rdOf ByteArray.empty l (i : Int)) with
      | true => rw [c] at hh; exact .inr ⟨a, by omega, by simp, (evP hh).eve fun k e => by simp only [impl_Distinct.l0, e, Option.bind_some, if_true]; rw [if_pos (by omega), if_pos (by omega), if_pos (by omega), w64s hi (by omega)]⟩
      | false => rw [c] at hh; exact .inr ⟨a ++ [rdOf ByteArray.empty l (i : Int)], by simp; omega, by simp, (evP hh).eve fun k e => by simp only [impl_Distinct.l0, e, Option.bind_some, Bool.false_eq_true, if_false]; rw [if_pos (by omega), if_pos (by omega), if_pos (by omega), if_pos (by omega), w64s hi (by omega)]⟩) 0 [] (Nat.zero_le _) (by simp)
  simpa [impl_Distinct.f] using key
theorem take_rev (l : List ByteArray) (n : Nat) (h : n < l.length) : (l.take (n + 1)).reverse = rdOf ByteArray.empty l (n : Int) :: (l.take n).reverse := by
  rw [List.take_add_one, rdOf_nat, List.getD_eq_getElem?_getD, List.getElem?_eq_getElem h]; simp
theorem drop_take (l : List ByteArray) (i n : Nat) (hn : n < i) (hi : i ≤ l.length) : (l.take i).drop n = rdOf ByteArray.empty l (n : Int) :: (l.take i).drop (n + 1) := by
  have h1 : n < (l.take i).length := by rw [List.length_take]; omega
  have := drop_rdOf ByteArray.empty (l.take i) n h1
  rw [this, rdOf_nat, rdOf_nat, List.getD_eq_getElem?_getD, List.getD_eq_getElem?_getD, List.getElem?_take_of_lt hn]
theorem depths_snoc (l : List ByteArray) (i : Nat) (hi : i < l.length) : ((List.range l.length).map fun i : Nat => dGo (rdOf ByteArray.empty l (i : Int)) [] (l.take i).reverse).drop i = dGo (rdOf ByteArray.empty l (i : Int)) [] (l.take i).reverse :: ((List.range l.length).map fun i : Nat => dGo (rdOf ByteArray.empty l (i : Int)) [] (l.take i).reverse).drop (i + 1) := by
  rw [List.drop_eq_getElem_cons (by simpa using hi)]; simp
theorem impl_back (l : List ByteArray) (hl : l.length ≤ 1048576) (x3 : List Int) (h3 : x3.length ≤ 1048576) (key : ByteArray) (i : Nat) (hi : i ≤ l.length) (x11 : Int) (q : List Int) :
    ∀ (n : Nat) (acc : List ByteArray), n ≤ i → acc.reverse = (l.take i).drop n → Ev (fun k => impl_DepthsOf.l0 k l (x3 ++ [dGo key acc (l.take n).reverse]) l (l.length : Int) (wrap64 (x11 + 1))) q → Ev (fun k => impl_DepthsOf.l1 k l x3 (i : Int) key (-1) ((n : Int) - 1) l (l.length : Int) x11) q := by
  intro n
  induction n with
  | zero =>
    intro acc hn ha h
    refine Ev.up (EvE.of fun k => ?_) h
    simp only [impl_DepthsOf.l1]
    rw [if_neg (by omega), if_pos (by omega)]; rfl
  | succ n ih =>
    intro acc hn ha h
    have e1 : ((n + 1 : Nat) : Int) - 1 = (n : Int) := by omega
    have e2 : wrap64 ((n : Int) - 1) = (n : Int) - 1 := w64 (by omega) (by omega)
    have e3 : wrap64 ((n : Int) + 1) = ((n + 1 : Nat) : Int) := by rw [w64 (by omega) (by omega)]; omega
    rw [take_rev l n (by omega), dGo] at h
    rw [e1]
    by_cases c : rdOf ByteArray.empty l (n : Int) = key
    · rw [if_pos c] at h
      have hlen : ((l.take i).drop (n + 1)).length ≤ 1048576 := by rw [List.length_drop, List.length_take]; omega
      have hdd : (dist [] ((l.take i).drop (n + 1))).length = (dist [] acc).length := by rw [← ha, dist_reverse]
      refine Ev.up ((evP (impl_Distinct_ev ((l.take i).drop (n + 1)) hlen)).eve fun k e => ?_) h
      simp only [impl_DepthsOf.l1, toList_inj, e3, Int.toNat_natCast]
      rw [if_pos (by omega), if_pos (by omega), if_pos (by omega), if_pos c, if_pos (by omega), if_pos (by omega), if_pos (by omega)]
      simp only [e, Option.bind_some]
      rw [if_pos (by omega), hdd]
    · rw [if_neg c] at h
      have h2 := ih (acc ++ [rdOf ByteArray.empty l (n : Int)]) (by omega) (by rw [List.reverse_append, ha, drop_take l i n (by omega) hi]; rfl) h
      refine Ev.up (EvE.of fun k => ?_) h2
      simp only [impl_DepthsOf.l1, toList_inj, e2]
      rw [if_pos (by omega), if_pos (by omega), if_pos (by omega), if_neg c]
theorem impl_DepthsOf_ev (l : List ByteArray) (hl : l.length ≤ 1048576) : Ev (fun k => impl_DepthsOf.f k l) (depths l) := by
  have key := Ev.scan' (fun k a i => impl_DepthsOf.l0 k l a l (l.length : Int) i) l.length (fun i a => a.length = i) (fun i a => a ++ (depths l).drop i)
    (fun a ha => Ev.up (g := fun _ => some _) (EvE.of fun k => by simp only [impl_DepthsOf.l0]; rw [if_neg (by omega)]) (by rw [List.drop_eq_nil_of_le (by simp [depths]), List.append_nil]; exact Ev.now _))
    (fun i a hi ha => .inr ⟨a ++ [dGo (rdOf ByteArray.empty l (i : Int)) [] (l.take i).reverse], by simp [ha], by unfold depths; rw [depths_snoc l i hi]; simp, fun q hq => by
      have h2 := impl_back l (by omega) a (by omega) (rdOf ByteArray.empty l (i : Int)) i (by omega) (i : Int) q i [] (by omega) (by rw [List.reverse_nil, List.drop_eq_nil_of_le (by rw [List.length_take]; omega)]) (by rw [w64s hi (by omega)]; exact hq)
      refine Ev.up (EvE.of fun k => ?_) h2
      simp only [impl_DepthsOf.l0]
      rw [if_pos (by omega), if_pos (by omega), if_pos (by omega), w64 (by omega) (by omega)]⟩) 0 [] (Nat.zero_le _) rfl
  simpa [impl_DepthsOf.f] using key
def missesAt (l : List Int) (cap : Int) : Nat := l.countP fun d => decide (d < 0) || decide (d ≥ cap)
theorem impl_MissesAt_ev (l : List Int) (cap : Int) (h : l.length ≤ 1048576) : Ev (fun k => impl_MissesAt.f k l cap) (missesAt l cap : Int) := by
  have key := Ev.scan (fun k n i => impl_MissesAt.l0 k cap n l (l.length : Int) i) l.length (fun i n => 0 ≤ n ∧ n ≤ (i : Int)) (fun i n => n + (missesAt (l.drop i) cap : Int))
    (fun n hn => Ev.some_ fun k => by simp only [impl_MissesAt.l0]; rw [if_neg (by omega), List.drop_eq_nil_of_le (Nat.le_refl _)]; simp [missesAt])
    (fun i n hi hn => by
      have hd := drop_rd l i hi
      have hw : wrap64 (n + 1) = n + 1 := w64 (by omega) (by omega)
      have hl : ∀ k, impl_MissesAt.l0 (k + 1) cap n l (l.length : Int) (i : Int) = if rd l (i : Int) < 0 then impl_MissesAt.l0 k cap (n + 1) l (l.length : Int) ((i + 1 : Nat) : Int) else if rd l (i : Int) ≥ cap then impl_MissesAt.l0 k cap (n + 1) l (l.length : Int) ((i + 1 : Nat) : Int) else impl_MissesAt.l0 k cap n l (l.length : Int) ((i + 1 : Nat) : Int) := fun k => by
        simp only [impl_MissesAt.l0]; rw [if_pos (by omega), if_pos (by omega), if_pos (by omega), w64s hi (by omega), hw]
      rw [hd]
      by_cases c1 : rd l (i : Int) < 0
      · exact .inr ⟨n + 1, by omega, by simp [missesAt, c1]; try omega, EvE.of fun k => by simp only [hl]; rw [if_pos c1]⟩
      · by_cases c2 : rd l (i : Int) ≥ cap
        · exact .inr ⟨n + 1, by omega, by simp [missesAt, c2]; try omega, EvE.of fun k => by simp only [hl]; rw [if_neg c1, if_pos c2]⟩
        · exact .inr ⟨n, by omega, by simp [missesAt, c1, c2], EvE.of fun k => by simp only [hl]; rw [if_neg c1, if_neg c2]⟩) 0 0 (Nat.zero_le _) (by omega)
  simpa [impl_MissesAt.f] using key
theorem impl_Curve_l0 (D : List Int) (hD : D.length ≤ 1048576) (m : Int) (h1 : 1 ≤ m) (h2 : m ≤ 60) :
    Ev (fun k => impl_Curve.l0 k m [] D 1) ((List.range m.toNat).map fun c : Nat => (missesAt D ((c : Int) + 1) : Int)) := by
  have key := Ev.scan' (fun k a i => impl_Curve.l0 k m a D (i + 1)) m.toNat (fun i a => a.length = i) (fun i a => a ++ ((List.range m.toNat).drop i).map fun c : Nat => (missesAt D ((c : Int) + 1) : Int))
    (fun a ha => Ev.up (g := fun _ => some _) (EvE.of fun k => by simp only [impl_Curve.l0]; rw [if_neg (by omega)]) (by rw [List.drop_eq_nil_of_le (by simp), List.map_nil, List.append_nil]; exact Ev.now _))
    (fun i a hi ha => .inr ⟨a ++ [(missesAt D ((i : Int) + 1) : Int)], by simp [ha], by
        rw [List.drop_eq_getElem_cons (i := i) (by simpa using hi), List.map_cons, List.getElem_range]; simp, fun q hq => by
        refine Ev.up ((evP (impl_MissesAt_ev D ((i : Int) + 1) hD)).eve fun k e => ?_) hq
        simp only [impl_Curve.l0, e, Option.bind_some]
        rw [if_pos (by omega), if_pos (by omega), w64 (by omega) (by omega)]; rfl⟩) 0 [] (Nat.zero_le _) rfl
  simpa using key
theorem rd0_eq (e : List Int) (i : Nat) (h : 0 < i) : ((i : Int) - 1) = ((i - 1 : Nat) : Int) := by omega
theorem w64p {i n : Nat} (h : i < n) (hn : n ≤ 9223372036854775807) : wrap64 ((i : Int) - 1) = (i : Int) - 1 := w64 (by omega) (by omega)
def okAt (e : List Int) (i : Nat) : Prop := 1 ≤ rd e (i : Int) ∧ (0 < i → rd e ((i : Int) - 1) < rd e (i : Int))
instance (e : List Int) (i : Nat) : Decidable (okAt e i) := by unfold okAt; exact inferInstance
def slot (e : List Int) (d : Int) : Nat := if d ≥ 0 then 1 + e.countP (fun x => decide (d ≥ x)) else 0
def bump (e : List Int) (c : List Int) (d : Int) : List Int := c.set (slot e d) (wrap64 (rd c (slot e d : Int) + 1))
def binsAt (l e : List Int) : List Int := l.foldl (bump e) (List.replicate (e.length + 2) 0)
theorem slot_le (e : List Int) (d : Int) : slot e d ≤ e.length + 1 := by
  unfold slot; split
  · have := List.countP_le_length (p := fun x => decide (d ≥ x)) (l := e); omega
  · omega
theorem bump_length (e c : List Int) (d : Int) : (bump e c d).length = c.length := by simp [bump]
theorem fold_length (e : List Int) (l c : List Int) : (l.foldl (bump e) c).length = c.length := by
  induction l generalizing c with
  | nil => rfl
  | cons x l ih => simp only [List.foldl_cons]; rw [ih, bump_length]
theorem binsAt_length (l e : List Int) (h : e.length ≤ 1048576) : (binsAt l e).length ≤ 1048578 := by unfold binsAt; rw [fold_length]; simp; omega
theorem rises_ev (e : List Int) (he : e.length ≤ 1048576) : ∃ r, Ev (fun k => impl_rises.f k e) r ∧ (r = true ↔ ∀ i, 0 < i → i < e.length → rd e ((i : Int) - 1) < rd e (i : Int)) := by
  by_cases g : ∀ i, 0 < i → i < e.length → rd e ((i : Int) - 1) < rd e (i : Int)
  · refine ⟨true, ?_, by simp; exact g⟩
    by_cases h1 : 1 ≤ e.length
    · have key := Ev.scan' (fun k (_ : Unit) i => impl_rises.l0 k e i) e.length (fun i _ => 1 ≤ i) (fun _ _ => true)
        (fun _ _ => Ev.up (g := fun _ => some _) (EvE.of fun k => by simp only [impl_rises.l0]; rw [if_neg (by omega)]) (Ev.now _))
        (fun i _ hi hp => .inr ⟨(), by omega, rfl, fun q hq => Ev.up (EvE.of fun k => by
          simp only [impl_rises.l0]
          rw [if_pos (by omega), w64p hi (by omega), if_pos (by omega), if_pos (by omega), if_pos (by omega), if_neg (by have := g i (by omega) hi; omega), w64s hi (by omega)]) hq⟩) 1 () h1 (Nat.le_refl _)
      exact key
    · exact Ev.up (g := fun _ => some _) (EvE.of fun k => by simp only [impl_rises.f, impl_rises.l0]; rw [if_neg (by omega)]) (Ev.now _)
  · refine ⟨false, ?_, by simp; simpa using g⟩
    have h1 : 1 ≤ e.length := by
      rcases Nat.eq_zero_or_pos e.length with h | h
      · exact absurd (fun i _ hi => by omega) g
      · exact h
    have key := Ev.scan' (fun k (_ : Unit) i => impl_rises.l0 k e i) e.length (fun i _ => 1 ≤ i ∧ ∀ j, 0 < j → j < i → rd e ((j : Int) - 1) < rd e (j : Int)) (fun _ _ => false)
      (fun _ h => absurd h.2 g)
      (fun i _ hi hp => by
        by_cases c : rd e ((i : Int) - 1) ≥ rd e (i : Int)
        · refine .inl (Ev.up (g := fun _ => some _) (EvE.of fun k => ?_) (Ev.now _))
          simp only [impl_rises.l0]
          rw [if_pos (by omega), w64p hi (by omega), if_pos (by omega), if_pos (by omega), if_pos (by omega), if_pos c]
        · refine .inr ⟨(), ⟨by omega, fun j h0 hj => by rcases Nat.lt_succ_iff_lt_or_eq.1 hj with h | rfl; exact hp.2 j h0 h; omega⟩, rfl, fun q hq => Ev.up (EvE.of fun k => ?_) hq⟩
          simp only [impl_rises.l0]
          rw [if_pos (by omega), w64p hi (by omega), if_pos (by omega), if_pos (by omega), if_pos (by omega), if_neg c, w64s hi (by omega)]) 1 () h1 ⟨Nat.le_refl _, fun j h0 hj => by omega⟩
    exact key
theorem sorted_count (e : List Int) (d : Int) (g : ∀ i, 0 < i → i < e.length → rd e ((i : Int) - 1) < rd e (i : Int)) : ∀ i, i ≤ e.length → (i < e.length → d < rd e (i : Int)) → (∀ j, j < i → d ≥ rd e (j : Int)) → e.countP (fun x => decide (d ≥ x)) = i := by
  intro i hi h1 h2
  have hgt : ∀ j, i ≤ j → j < e.length → d < rd e (j : Int) := by
    intro j
    induction j with
    | zero => intro hij hj; obtain rfl : i = 0 := (by omega); exact h1 hj
    | succ j ih =>
      intro hij hj
      rcases Nat.lt_or_ge i (j + 1) with h | h
      · have a := ih (by omega) (by omega)
        have b := g (j + 1) (by omega) hj
        have e1 : ((j + 1 : Nat) : Int) - 1 = (j : Int) := by omega
        rw [e1] at b; omega
      · obtain rfl : i = j + 1 := by omega
        exact h1 hj
  have es : e.countP (fun x => decide (d ≥ x)) = (e.take i).countP (fun x => decide (d ≥ x)) + (e.drop i).countP (fun x => decide (d ≥ x)) := by rw [← List.countP_append, List.take_append_drop]
  have ht : (e.take i).countP (fun x => decide (d ≥ x)) = i := by
    have : (e.take i).countP (fun x => decide (d ≥ x)) = (e.take i).length := by
      rw [List.countP_eq_length]
      intro x hx
      obtain ⟨j, hj⟩ := List.getElem?_of_mem hx
      have hji : j < i := by have := (List.getElem?_eq_some_iff.1 hj).1; rw [List.length_take] at this; omega
      rw [List.getElem?_take_of_lt hji] at hj
      have := h2 j hji
      rw [rd_nat, List.getD_eq_getElem?_getD, hj] at this
      exact decide_eq_true this
    rw [this, List.length_take]; omega
  have hdp : (e.drop i).countP (fun x => decide (d ≥ x)) = 0 := by
    rw [List.countP_eq_zero]
    intro x hx
    obtain ⟨j, hj⟩ := List.getElem?_of_mem hx
    rw [List.getElem?_drop] at hj
    have hlt := (List.getElem?_eq_some_iff.1 hj).1
    have := hgt (i + j) (by omega) hlt
    rw [rd_nat, List.getD_eq_getElem?_getD, hj] at this
    simp only [Option.getD_some] at this
    simp; omega
  omega
theorem impl_count (l e : List Int) (hl : l.length ≤ 1048576) (he : e.length ≤ 1048576) (g : ∀ i, 0 < i → i < e.length → rd e ((i : Int) - 1) < rd e (i : Int)) (c : List Int) (d : Int) (x30 : Int) (q : List Int × Bool) (hc : c.length = e.length + 2) (hd : d ≥ 0)
    (h : Ev (fun k => impl_Bins.l0 k e (bump e c d) l (l.length : Int) (wrap64 (x30 + 1))) q) :
    Ev (fun k => impl_Bins.l1 k e c d 1 l (l.length : Int) x30) q := by
  have hfin : ∀ i : Nat, i ≤ e.length → (i < e.length → d < rd e (i : Int)) → (∀ j, j < i → d ≥ rd e (j : Int)) → slot e d = i + 1 := by
    intro i hi h1 h2
    unfold slot; rw [if_pos hd, sorted_count e d g i hi h1 h2]; omega
  have key := Ev.scan' (fun k (_ : Unit) i => impl_Bins.l1 k e c d (i + 1) l (l.length : Int) x30) e.length (fun i _ => ∀ j, j < i → d ≥ rd e (j : Int)) (fun _ _ => q)
    (fun _ hI => by
      have hs := hfin e.length (Nat.le_refl _) (fun h => absurd h (Nat.lt_irrefl _)) hI
      refine Ev.up (EvE.of fun k => ?_) h
      simp only [impl_Bins.l1]
      have e1 : ((e.length : Int) + 1) = ((slot e d : Nat) : Int) := by rw [hs]; omega
      rw [if_neg (by omega), if_pos (by omega), if_pos (by omega), e1, Int.toNat_natCast]; rfl)
    (fun i _ hi hI => by
      have e0 : wrap64 ((i : Int) + 1 - 1) = (i : Int) := by rw [w64 (by omega) (by omega)]; omega
      by_cases c1 : d ≥ rd e (i : Int)
      · refine .inr ⟨(), fun j hj => by rcases Nat.lt_succ_iff_lt_or_eq.1 hj with h | rfl; exact hI j h; exact c1, rfl, fun q' hq => Ev.up (EvE.of fun k => ?_) hq⟩
        simp only [impl_Bins.l1, e0]
        rw [if_pos (by omega), if_pos (by omega), if_pos (by omega), if_pos c1, w64 (by omega) (by omega)]; rfl
      · have hs := hfin i (by omega) (fun _ => by omega) hI
        refine .inl (Ev.up (EvE.of fun k => ?_) h)
        simp only [impl_Bins.l1, e0]
        have e1 : ((i : Int) + 1) = ((slot e d : Nat) : Int) := by rw [hs]; omega
        rw [if_pos (by omega), if_pos (by omega), if_pos (by omega), if_neg c1, if_pos (by omega), if_pos (by omega), e1, Int.toNat_natCast]; rfl) 0 () (Nat.zero_le _) (fun j hj => by omega)
  exact key
theorem impl_l0_ev (l e : List Int) (hl : l.length ≤ 1048576) (he : e.length ≤ 1048576) (g : ∀ i, 0 < i → i < e.length → rd e ((i : Int) - 1) < rd e (i : Int)) : Ev (fun k => impl_Bins.l0 k e (List.replicate (e.length + 2) 0) l (l.length : Int) 0) (binsAt l e, true) := by
  have key := Ev.scan' (fun k c i => impl_Bins.l0 k e c l (l.length : Int) i) l.length (fun _ c => c.length = e.length + 2) (fun i c => ((l.drop i).foldl (bump e) c, true))
    (fun c hc => Ev.up (g := fun _ => some _) (EvE.of fun k => by simp only [impl_Bins.l0]; rw [if_neg (by omega)]) (by rw [List.drop_eq_nil_of_le (Nat.le_refl _)]; exact Ev.now _))
    (fun i c hi hc => by
      have hdr := drop_rd l i hi
      refine .inr ⟨bump e c (rd l (i : Int)), by rw [bump_length, hc], by rw [hdr]; rfl, fun q hq => ?_⟩
      by_cases c1 : rd l (i : Int) ≥ 0
      · have h2 := impl_count l e hl he g c (rd l (i : Int)) (i : Int) q hc c1 (by rw [w64s hi (by omega)]; exact hq)
        refine Ev.up (EvE.of fun k => ?_) h2
        simp only [impl_Bins.l0]
        rw [if_pos (by omega), if_pos (by omega), if_pos (by omega), if_pos c1]
      · refine Ev.up (EvE.of fun k => ?_) hq
        simp only [impl_Bins.l0]
        rw [if_pos (by omega), if_pos (by omega), if_pos (by omega), if_neg c1, if_pos (by omega), w64s hi (by omega)]
        simp only [bump, slot]; rw [if_neg c1]; rfl) 0 (List.replicate (e.length + 2) 0) (Nat.zero_le _) (by simp)
  simpa [binsAt] using key
theorem impl_good (l e : List Int) (hl : l.length ≤ 1048576) (he : e.length ≤ 1048576) (g : ∀ i, i < e.length → okAt e i) : Ev (fun k => impl_Bins.f k l e) (binsAt l e, true) := by
  have g2 : ∀ i, 0 < i → i < e.length → rd e ((i : Int) - 1) < rd e (i : Int) := fun i h0 hi => (g i hi).2 h0
  obtain ⟨r, hr, hri⟩ := rises_ev e he
  obtain rfl : r = true := hri.2 g2
  have hj : Ev (fun k => impl_Bins.j0 k l e false) (binsAt l e, true) := by
    refine Ev.up (EvE.of fun k => ?_) (impl_l0_ev l e hl he g2)
    simp only [impl_Bins.j0, Bool.false_eq_true, if_false]
    rw [w64 (by omega) (by omega), if_pos (by omega), if_pos (by omega), show ((e.length : Int) + 2).toNat = e.length + 2 by omega]
  refine (evA hr (evP hj)).ev fun k ⟨e1, e2⟩ => ?_
  simp only [impl_Bins.f, e1, Option.bind_some, if_true]
  by_cases c : (e.length : Int) > 0
  · have h0 : 1 ≤ rd e 0 := (g 0 (by omega)).1
    rw [if_pos c, if_pos (by omega), decide_eq_false (by omega)]; exact e2
  · rw [if_neg c]; exact e2
theorem snoc_ind {α : Type} {P : List α → Prop} (h0 : P []) (hs : ∀ l x, P l → P (l ++ [x])) : ∀ l, P l := by
  intro l
  have : ∀ r : List α, P r.reverse := by
    intro r
    induction r with
    | nil => exact h0
    | cons x r ih => rw [List.reverse_cons]; exact hs _ x ih
  have h := this l.reverse
  rwa [List.reverse_reverse] at h
theorem depths_append (l : List ByteArray) (x : ByteArray) : depths (l ++ [x]) = depths l ++ [dGo x [] l.reverse] := by
  unfold depths
  rw [List.length_append, List.length_singleton, List.range_succ, List.map_append, List.map_singleton]
  congr 1
  · apply List.map_congr_left
    intro i hi
    have hi := List.mem_range.1 hi
    rw [rdOf_nat, rdOf_nat, List.take_append_of_le_length (by omega), List.getD_eq_getElem?_getD, List.getD_eq_getElem?_getD, List.getElem?_append_left hi]
  · rw [rdOf_nat, List.getD_eq_getElem?_getD, List.getElem?_append_right (Nat.le_refl _), Nat.sub_self, List.take_append_of_le_length (Nat.le_refl _), List.take_length]; rfl
theorem dGo_some (key : ByteArray) : ∀ (l acc : List ByteArray), (dGo key acc l < 0 ↔ key ∉ l) ∧ (0 ≤ dGo key acc l → ∃ s, dGo key acc l = ((dist [] (acc ++ s)).length : Int) ∧ ∀ x ∈ s, x ∈ l) := by
  intro l
  induction l with
  | nil => intro acc; exact ⟨by simp [dGo], fun h => by simp [dGo] at h⟩
  | cons y r ih =>
    intro acc
    unfold dGo
    by_cases c : y = key
    · rw [if_pos c]
      exact ⟨⟨fun h => by omega, fun h => absurd (c ▸ List.mem_cons_self) h⟩, fun _ => ⟨[], by simp, by simp⟩⟩
    · rw [if_neg c]
      have h := ih (acc ++ [y])
      refine ⟨h.1.trans ⟨fun h h2 => (List.mem_cons.1 h2).elim (fun e => c e.symm) h, fun h h2 => h (List.mem_cons_of_mem _ h2)⟩, fun h0 => ?_⟩
      obtain ⟨s, e, hs⟩ := h.2 h0
      refine ⟨y :: s, by rw [e]; simp, fun x hx => ?_⟩
      rcases List.mem_cons.1 hx with rfl | hx
      · exact List.mem_cons_self
      · exact List.mem_cons_of_mem _ (hs x hx)
theorem depth_small (l : List ByteArray) (hl : ∀ x ∈ l, x ∈ keys8) : ∀ d ∈ depths l, d < 10 := by
  induction l using snoc_ind with
  | h0 => intro d hd; simp [depths] at hd
  | hs l x ih =>
    intro d hd
    rw [depths_append, List.mem_append] at hd
    rcases hd with hd | hd
    · exact ih (fun y hy => hl y (List.mem_append_left _ hy)) d hd
    · rw [List.mem_singleton] at hd
      subst hd
      by_cases c : 0 ≤ dGo x [] l.reverse
      · obtain ⟨s, e, hs⟩ := (dGo_some x l.reverse []).2 c
        rw [e, List.nil_append]
        have := nodup_le (dist [] s) keys8 (dist_nodup _ _ List.nodup_nil) (fun y hy => by
          have h1 := (dist_mem _ _ _).1 hy
          rcases h1 with h1 | h1
          · cases h1
          · exact hl y (List.mem_append_left _ (List.mem_reverse.1 (hs y h1))))
        have h8 : keys8.length = 8 := rfl
        omega
      · omega
theorem depth_first (l : List ByteArray) : (depths l).countP (fun d => decide (d < 0)) = (dist [] l).length := by
  induction l using snoc_ind with
  | h0 => rfl
  | hs l x ih =>
    rw [depths_append, List.countP_append, ih, dist_snoc]
    have h := (dGo_some x l.reverse []).1
    have hm : hasT (dist [] l) x = true ↔ x ∈ l := by rw [hasT_mem, dist_mem]; simp
    by_cases c : x ∈ l
    · rw [if_pos (hm.2 c)]
      have : ¬ dGo x [] l.reverse < 0 := fun h2 => (h.1 h2) (List.mem_reverse.2 c)
      simp [this]
    · rw [if_neg (fun h2 => c (hm.1 h2))]
      have : dGo x [] l.reverse < 0 := h.2 (fun h2 => c (List.mem_reverse.1 h2))
      simp [this]
def n0 (D : List Int) : Nat := D.countP fun d => decide (d < 0)
def n1 (D : List Int) : Nat := D.countP fun d => decide (0 ≤ d) && decide (d < 1)
def n2 (D : List Int) : Nat := D.countP fun d => decide (1 ≤ d) && decide (d < 3)
def n3 (D : List Int) : Nat := D.countP fun d => decide (3 ≤ d)
theorem sums (D : List Int) : missesAt D 1 = n0 D + n2 D + n3 D ∧ missesAt D 3 = n0 D + n3 D ∧ n0 D + n1 D + n2 D + n3 D = D.length := by
  induction D with
  | nil => exact ⟨rfl, rfl, rfl⟩
  | cons d D ih =>
    simp only [missesAt, n0, n1, n2, n3, List.countP_cons, List.length_cons] at ih ⊢
    by_cases a : d < 0
    · have e1 : ¬ 0 ≤ d := by omega
      have e2 : ¬ 1 ≤ d := by omega
      have e3 : ¬ 3 ≤ d := by omega
      simp only [a, e1, e2, e3, decide_true, decide_false, Bool.true_or, Bool.false_and, if_true, Bool.false_eq_true, if_false]; omega
    · by_cases b : d < 1
      · have e1 : 0 ≤ d := by omega
        have e2 : ¬ 1 ≤ d := by omega
        have e3 : ¬ 3 ≤ d := by omega
        have e4 : ¬ d ≥ 1 := by omega
        have e5 : ¬ d ≥ 3 := by omega
        simp only [a, b, e1, e2, e3, e4, e5, decide_true, decide_false, Bool.or_self, Bool.and_self, Bool.false_and, if_true, Bool.false_eq_true, if_false]; omega
      · by_cases c : d < 3
        · have e1 : 0 ≤ d := by omega
          have e2 : 1 ≤ d := by omega
          have e3 : ¬ 3 ≤ d := by omega
          have e4 : d ≥ 1 := by omega
          have e5 : ¬ d ≥ 3 := by omega
          simp only [a, b, c, e1, e2, e3, e4, e5, decide_true, decide_false, Bool.false_or, Bool.or_self, Bool.and_self, Bool.and_false, if_true, Bool.false_eq_true, if_false]; omega
        · have e1 : 0 ≤ d := by omega
          have e2 : 1 ≤ d := by omega
          have e3 : 3 ≤ d := by omega
          have e4 : d ≥ 1 := by omega
          have e5 : d ≥ 3 := by omega
          simp only [a, b, c, e1, e2, e3, e4, e5, decide_true, decide_false, Bool.false_or, Bool.and_false, if_true, Bool.false_eq_true, if_false]; omega
theorem misses_all (D : List Int) (h : ∀ d ∈ D, d < 10) : missesAt D 10 = n0 D := by
  unfold missesAt n0
  apply List.countP_congr
  intro d hd
  have := h d hd
  simp; omega
theorem misses_mono (D : List Int) (a b : Int) (h : a ≤ b) : missesAt D b ≤ missesAt D a := by
  unfold missesAt
  apply List.countP_mono_left
  intro d _ hd
  simp at hd ⊢; omega
theorem binsE (D : List Int) : ∀ (a b c d : Nat), a + D.length ≤ 1000000 → b + D.length ≤ 1000000 → c + D.length ≤ 1000000 → d + D.length ≤ 1000000 → D.foldl (bump [1, 3]) [(a : Int), (b : Int), (c : Int), (d : Int)] = [((a + n0 D : Nat) : Int), ((b + n1 D : Nat) : Int), ((c + n2 D : Nat) : Int), ((d + n3 D : Nat) : Int)] := by
  induction D with
  | nil => intro a b c d _ _ _ _; rfl
  | cons x D ih =>
    intro a b c d h1 h2 h3 h4
    simp only [List.length_cons] at h1 h2 h3 h4
    rw [List.foldl_cons]
    have w : ∀ n : Nat, n ≤ 1000000 → wrap64 ((n : Int) + 1) = ((n + 1 : Nat) : Int) := fun n hn => w64s (n := n + 1) (by omega) (by omega)
    by_cases e0 : x < 0
    · have hs : slot [1, 3] x = 0 := by unfold slot; rw [if_neg (by omega)]
      rw [show bump [1, 3] [(a : Int), (b : Int), (c : Int), (d : Int)] x = [((a + 1 : Nat) : Int), (b : Int), (c : Int), (d : Int)] by unfold bump; rw [hs, rd_nat]; show [wrap64 ((a : Int) + 1), _, _, _] = _; rw [w a (by omega)], ih _ _ _ _ (by omega) (by omega) (by omega) (by omega)]
      simp only [n0, n1, n2, n3, List.countP_cons, e0, show ¬ 0 ≤ x by omega, show ¬ 1 ≤ x by omega, show ¬ 3 ≤ x by omega, decide_true, decide_false, Bool.false_and, if_true, Bool.false_eq_true, if_false]
      congr 2 <;> omega
    · by_cases e1 : x < 1
      · have hs : slot [1, 3] x = 1 := by unfold slot; rw [if_pos (by omega)]; simp [show ¬ 1 ≤ x by omega, show ¬ 3 ≤ x by omega]
        rw [show bump [1, 3] [(a : Int), (b : Int), (c : Int), (d : Int)] x = [(a : Int), ((b + 1 : Nat) : Int), (c : Int), (d : Int)] by unfold bump; rw [hs, rd_nat]; show [_, wrap64 ((b : Int) + 1), _, _] = _; rw [w b (by omega)], ih _ _ _ _ (by omega) (by omega) (by omega) (by omega)]
        simp only [n0, n1, n2, n3, List.countP_cons, e0, e1, show 0 ≤ x by omega, show ¬ 1 ≤ x by omega, show ¬ 3 ≤ x by omega, decide_true, decide_false, Bool.false_and, Bool.and_self, if_true, Bool.false_eq_true, if_false]
        congr 3 <;> omega
      · by_cases e2 : x < 3
        · have hs : slot [1, 3] x = 2 := by unfold slot; rw [if_pos (by omega)]; simp [show 1 ≤ x by omega, show ¬ 3 ≤ x by omega]
          rw [show bump [1, 3] [(a : Int), (b : Int), (c : Int), (d : Int)] x = [(a : Int), (b : Int), ((c + 1 : Nat) : Int), (d : Int)] by unfold bump; rw [hs, rd_nat]; show [_, _, wrap64 ((c : Int) + 1), _] = _; rw [w c (by omega)], ih _ _ _ _ (by omega) (by omega) (by omega) (by omega)]
          simp only [n0, n1, n2, n3, List.countP_cons, e0, e1, e2, show 0 ≤ x by omega, show 1 ≤ x by omega, show ¬ 3 ≤ x by omega, decide_true, decide_false, Bool.and_false, Bool.and_self, if_true, Bool.false_eq_true, if_false]
          congr 4 <;> omega
        · have hs : slot [1, 3] x = 3 := by unfold slot; rw [if_pos (by omega)]; simp [show 1 ≤ x by omega, show 3 ≤ x by omega]
          rw [show bump [1, 3] [(a : Int), (b : Int), (c : Int), (d : Int)] x = [(a : Int), (b : Int), (c : Int), ((d + 1 : Nat) : Int)] by unfold bump; rw [hs, rd_nat]; show [_, _, _, wrap64 ((d : Int) + 1)] = _; rw [w d (by omega)], ih _ _ _ _ (by omega) (by omega) (by omega) (by omega)]
          simp only [n0, n1, n2, n3, List.countP_cons, e0, e1, e2, show 0 ≤ x by omega, show 1 ≤ x by omega, show 3 ≤ x by omega, decide_true, decide_false, Bool.and_false, if_true, Bool.false_eq_true, if_false]
          congr 4 <;> omega
theorem FnCurve : DFnCurve.Pure := by
  intro c ⟨hc, hw⟩
  by_cases hl : (c.length : Int) > 1048576
  · exact ⟨0, by simp only [laws_FnCurve.f]; rw [if_pos hl]⟩
  · obtain ⟨l, hl24, hk, hmk⟩ := asks_some c (by omega) 24 (by omega)
    have hD : (depths l).length = l.length := by simp [depths]
    have hC := impl_Curve_l0 (depths l) (by omega) 10 (by omega) (by omega)
    have hdp := impl_DepthsOf_ev l (by omega)
    have hb := impl_good (depths l) [1, 3] (by omega) (by simp) (fun i hi => by
      have hi : i < 2 := hi
      rcases Nat.lt_or_ge i 1 with h | h
      · have : i = 0 := by omega
        subst this; exact ⟨by decide, fun h => by omega⟩
      · have : i = 1 := by omega
        subst this; exact ⟨by decide, fun _ => by decide⟩)
    have hbe : binsAt (depths l) [1, 3] = [((n0 (depths l) : Nat) : Int), ((n1 (depths l) : Nat) : Int), ((n2 (depths l) : Nat) : Int), ((n3 (depths l) : Nat) : Int)] := by
      have h := binsE (depths l) 0 0 0 0 (by omega) (by omega) (by omega) (by omega)
      simp only [Nat.zero_add] at h
      exact h
    rw [hbe] at hb
    have s := sums (depths l)
    have q10 := misses_all (depths l) (depth_small l hk)
    have qd := depth_first l
    have hdist := impl_Distinct_ev l (by omega)
    have hds := dist_length [] l
    simp only [List.length_nil] at hds
    have m1 : ∀ i : Nat, missesAt (depths l) ((i : Int) + 1) ≤ 24 := fun i => Nat.le_trans List.countP_le_length (by omega)
    generalize hG : (List.range (10 : Int).toNat).map (fun c : Nat => (missesAt (depths l) ((c : Int) + 1) : Int)) = G at hC
    have hGl : G.length = 10 := by rw [← hG]; simp
    have hGr : ∀ i : Nat, i < 10 → rd G (i : Int) = (missesAt (depths l) ((i : Int) + 1) : Int) := fun i hi => by
      rw [rd_nat, ← hG]; simp [hi]
    have g9 : rd G 9 = (n0 (depths l) : Int) := by rw [show (9 : Int) = ((9 : Nat) : Int) from rfl, hGr 9 (by omega)]; rw [← q10]; rfl
    have g0 : rd G 0 = ((n0 (depths l) + n2 (depths l) + n3 (depths l) : Nat) : Int) := by rw [show (0 : Int) = ((0 : Nat) : Int) from rfl, hGr 0 (by omega), ← s.1]; rfl
    have g2 : rd G 2 = ((n0 (depths l) + n3 (depths l) : Nat) : Int) := by rw [show (2 : Int) = ((2 : Nat) : Int) from rfl, hGr 2 (by omega), ← s.2.1]; rfl
    have hfin : Ev (fun k => laws_FnCurve.l0 (k + 1) l G ((10 : Nat) : Int)) true := by
      refine (evA hdp (evA hb (evP hdist))).ev fun k ⟨e1, e2, e3⟩ => ?_
      have a0 : n0 (depths l) ≤ 24 := by have := s.2.2; omega
      simp only [laws_FnCurve.l0, e1, e2, e3, Option.bind_some, if_true, hGl, g9, g0, g2]
      have r0 : rd [((n0 (depths l) : Nat) : Int), ((n1 (depths l) : Nat) : Int), ((n2 (depths l) : Nat) : Int), ((n3 (depths l) : Nat) : Int)] 0 = (n0 (depths l) : Int) := rfl
      have r1 : rd [((n0 (depths l) : Nat) : Int), ((n1 (depths l) : Nat) : Int), ((n2 (depths l) : Nat) : Int), ((n3 (depths l) : Nat) : Int)] 1 = (n1 (depths l) : Int) := rfl
      have r2 : rd [((n0 (depths l) : Nat) : Int), ((n1 (depths l) : Nat) : Int), ((n2 (depths l) : Nat) : Int), ((n3 (depths l) : Nat) : Int)] 2 = (n2 (depths l) : Int) := rfl
      have r3 : rd [((n0 (depths l) : Nat) : Int), ((n1 (depths l) : Nat) : Int), ((n2 (depths l) : Nat) : Int), ((n3 (depths l) : Nat) : Int)] 3 = (n3 (depths l) : Int) := rfl
      have qd2 : n0 (depths l) = (dist [] l).length := qd
      simp only [r0, r1, r2, r3, List.length_cons, List.length_nil]
      have t := s.2.2
      have w1 : wrap64 ((n0 (depths l) : Int) + (n1 (depths l) : Int)) = (n0 (depths l) : Int) + (n1 (depths l) : Int) := w64 (by omega) (by omega)
      have w2 : wrap64 ((n0 (depths l) : Int) + (n1 (depths l) : Int) + (n2 (depths l) : Int)) = (n0 (depths l) : Int) + (n1 (depths l) : Int) + (n2 (depths l) : Int) := by clear w1; exact w64 (by omega) (by omega)
      have w3 : wrap64 ((n0 (depths l) : Int) + (n1 (depths l) : Int) + (n2 (depths l) : Int) + (n3 (depths l) : Int)) = (n0 (depths l) : Int) + (n1 (depths l) : Int) + (n2 (depths l) : Int) + (n3 (depths l) : Int) := by clear w1 w2; exact w64 (by omega) (by omega)
      have w4 : wrap64 ((n0 (depths l) : Int) + (n2 (depths l) : Int)) = (n0 (depths l) : Int) + (n2 (depths l) : Int) := by clear w1 w2 w3; exact w64 (by omega) (by omega)
      have w5 : wrap64 ((n0 (depths l) : Int) + (n2 (depths l) : Int) + (n3 (depths l) : Int)) = (n0 (depths l) : Int) + (n2 (depths l) : Int) + (n3 (depths l) : Int) := by clear w1 w2 w3 w4; exact w64 (by omega) (by omega)
      have w6 : wrap64 ((n0 (depths l) : Int) + (n3 (depths l) : Int)) = (n0 (depths l) : Int) + (n3 (depths l) : Int) := by clear w1 w2 w3 w4 w5; exact w64 (by omega) (by omega)
      simp only [w1, w2, w3, w4, w5, w6]
      clear w1 w2 w3 w4 w5 w6
      rw [if_neg (by omega), if_pos (by omega), if_pos (by omega), if_pos (by omega), if_pos (by omega), if_pos (by omega), if_pos (by omega), if_pos (by omega)]
      rw [if_pos (by omega), if_pos trivial, if_pos (by omega), if_pos (by omega), if_pos (by omega)]
      rw [beq_iff_eq.2 (by omega)]
    have loop := Ev.scan (σ := Unit) (fun k _ i => laws_FnCurve.l0 k l G i) 10 (fun i _ => 1 ≤ i) (fun _ _ => true) (fun _ _ => hfin)
      (fun i _ hi h1 => .inr ⟨(), by omega, rfl, EvE.of fun k => by
        have a1 := hGr i hi
        have a2 := hGr (i - 1) (by omega)
        have a3 : wrap64 ((i : Int) - 1) = ((i - 1 : Nat) : Int) := by rw [w64 (by omega) (by omega)]; omega
        have a4 := misses_mono (depths l) (((i - 1 : Nat) : Int) + 1) ((i : Int) + 1) (by omega)
        simp only [laws_FnCurve.l0, a3, hGl]
        clear a3
        rw [if_pos (by omega), if_pos (by omega), if_pos (by omega), if_pos (by omega), a1, a2, if_neg (by omega), w64s (n := 10) hi (by omega)]⟩) 1 () (by omega) (by omega)
    have hcur : Ev (fun k => impl_Curve.f k l 10) G := (evA hdp (evP hC)).ev fun k ⟨e1, e2⟩ => by
      simp only [impl_Curve.f, impl_within.f, Option.bind_some]
      rw [if_pos (by omega), Option.bind_some, if_pos (by decide), e1, Option.bind_some, e2]
    obtain ⟨k, e1, e2, e3⟩ := (evA hmk (evA hcur (evP loop))).ex
    refine ⟨k, ?_⟩
    have e1' : spec_MakeAsks.f k c 24 = some l := e1
    have e3' : laws_FnCurve.l0 k l G 1 = some true := e3
    simp only [laws_FnCurve.f, e1', e2, Option.bind_some]
    rw [if_neg hl, if_pos (by omega), e3']
end Go.Proofs.Ytmebfingnfhmlaa.Pure
