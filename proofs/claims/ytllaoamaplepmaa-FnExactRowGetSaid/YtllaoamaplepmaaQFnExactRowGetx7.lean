-- made by a program of this session (myprint.py)
import Derived.Test.YtllaoamaplepmaaDw
import Derived.Test.YtllaoamaplepmaaOw
import Derived.Test.YtllaoamaplepmaaQFnExactRowGetx0
import Derived.Test.YtllaoamaplepmaaQFnExactRowGetx6
namespace Go.Proofs.Ytllaoamaplepmaa.QFnExactRowGet
open Go.RowKit Go.Proofs.YtllaoamaplepmaaW.PrintWords Go.Proofs.YtllaoamaplepmaaW.PrintLast Go.Proofs.YtllaoamaplepmaaW.PrintMore
attribute [local go_sem] max2_int min2_int max_two min_two max_three min_three max_four min_four   -- for this text's walks alone
set_option linter.unusedVariables false
set_option linter.unusedSimpArgs false

/-! ### impl_copyRow: function 89 -/
def impl_copyRow.f (a0_0 : Int) (a0_1 : Int) (l0_2 : List (S84)) : Option (Int × Int × (List (S84))) := (impl_copyItems.f l0_2).bind fun t233 => (some (a0_0, a0_1, t233))
def impl_copyRow.T1 : Bool × List (List Nat × List Nat) := (true, [([], []), ([0], [0]), ([], []), ([2], [2]), ([], []), ([4], [4]), ([5], [5]), ([1, 3, 6], [1, 3, 6]), ([7, 6, 0, 1, 2, 3, 4, 5, 6, 7], [7])])
def impl_copyRow.B1 : List Nat := [0, 1, 0, 4, 0, 16, 48, 127, 255]
theorem impl_copyRow.tab1 : rtab .any (opsOf Try.f89 1) = impl_copyRow.T1 := by kernel_rfl
theorem impl_copyRow.bits1 : waitsOk impl_copyRow.T1.2 impl_copyRow.B1 = true := by kernel_rfl
set_option maxHeartbeats 8000000 in
set_option maxRecDepth 100000 in
theorem impl_copyRow.calls (a0_0 : Int) (a0_1 : Int) (A0_2 : Option Addr) (c0_2 : Nat) (l0_2 : List (S84)) (r1 : Int) (r2 : Int) (r3 : List (S84)) (w : World) (hr0_2 : Kd.C k84 w A0_2 l0_2.length l0_2) (hc0_2 : l0_2.length ≤ c0_2) (h : impl_copyRow.f a0_0 a0_1 l0_2 = some (r1, r2, r3)) :
  Calls Try.prog 89 #[.agg #[.int .i64 a0_0, .int .i64 a0_1, .slice A0_2 l0_2.length c0_2]] w fun e w' => ∃ v2_ : Value, e = .returned (.agg #[.int .i64 r1, .int .i64 r2, v2_]) ∧ Kd.R k84 84 w' w.heap.size (fun _ => True) v2_ r3 ∧ Below w.heap.size w w' := by
 have hu53 := Try.underlying53
 have HR0_2 := Aside0.mk hr0_2
 have HC0_2 := Aside0.mk hc0_2
 clear hr0_2 hc0_2
 have HB := Aside0.mk (Below.refl w.heap.size w)
 have H : ((impl_copyItems.f l0_2).bind fun t233 => (some (a0_0, a0_1, t233))) = some (r1, r2, r3) := h
 clear h
 replace H := Option.bind_eq_some_iff.mp H
 obtain ⟨t233, A20, H⟩ := H
 replace H : (some (a0_0, a0_1, t233)) = some (r1, r2, r3) := H
 have A2 := Aside0.mk A20
 clear A20
 simp only [Option.some.injEq, Prod.mk.injEq] at H
 obtain ⟨rfl, rfl, rfl⟩ := H
 go_enter Try.func89, Try.ntmps89
 try go_wp2_with (first | ((with_reducible refine gate_dst (N := 1) rfl ?_); refine bx 1 #[.int .i64 a0_0, .int .i64 a0_1, .slice A0_2 l0_2.length c0_2] 53 ?_; intro gb231 hg w3 hbox hb; have BK231 := am hbox; have GW231 := gs0 hg HB; have GE231 := gs0 hg HB; replace HB := s0 HB hb; clear hb hbox hg) | ((with_reducible refine gate_dst (N := 2) rfl ?_); refine bx 2 #[.int .i64 0, .int .i64 0, .slice none 0 0] 53 ?_; intro gb232 hg w4 hbox hb; have BK232 := am hbox; have GW232 := gs1 hg HB GE231; have GE232 := gs1 hg HB GE231; replace HB := Aside0.mk (below_step (be1 HB GE231) hb); have NB231_232 := Aside0.mk ((by rw [hg]; exact Nat.ne_of_lt (bl BK231) : gb231 ≠ gb232)); have NB232_231 := Aside0.mk ((by rw [hg]; exact Nat.ne_of_gt (bl BK231) : gb232 ≠ gb231)); replace BK231 := bb BK231 hb; clear hb hbox hg))
 have n0_ := Aside0.mk (blk_drew BK231.out)
 have n1_ := Aside0.mk (blk_drew BK232.out)
 have n2_ := Aside0.mk (below_drew1 HB.out)
 clear BK231
 clear BK232
 clear HB
 have BK231 := n0_
 have BK232 := n1_
 have HB := n2_
 clear n0_ n1_ n2_
 refine start_ (n := 9) (S := fun w' => w'.cell? ⟨gb231, 0, none⟩ = some (.int .i64 a0_0) ∧ w'.cell? ⟨gb231, 1, none⟩ = some (.int .i64 a0_1) ∧ w'.cell? ⟨gb231, 2, none⟩ = some (.slice A0_2 l0_2.length c0_2)) (ds := []) (bv 9 0x0) (by kernel_rfl) rfl rfl ⟨bc0 BK231, bc1 BK231, bc2 BK231⟩ (fun hHeld => ?_); refine with_tabW impl_copyRow.tab1 impl_copyRow.bits1 (fun HT_ HW_ => ?_)
 generalize w4.drew = w5 at BK231 BK232 HB hHeld ⊢
 refine py HT_ 0 3 (bv 9 0x1) ?_
 refine py HT_ 2 5 (bv 9 0x5) ?_
 refine py HT_ 4 7 (bv 9 0x15) ?_
 refine tk HT_ HW_ hHeld 1 4 (bv 9 0x17) ?_
 refine tk HT_ HW_ hHeld 3 6 (bv 9 0x1f) ?_
 refine tk HT_ HW_ hHeld 5 8 (bv 9 0x3f) ?_
 refine one_ (i := 6) (N := some 9) (bv 9 0x7f) rfl rfl (one_of HT_.out (by kernel_rfl)) (by decide) (fun K hK => ?_)
 refine goes_ Try.func105 (by kernel_rfl) rfl #[.slice A0_2 l0_2.length c0_2] (by rfl) rfl rfl ml ?_
 with_reducible refine (impl_copyItems.calls _ _ l0_2 t233 _ ?side1 ?side2 A2.out).mono ?_
 (case side1 => exact cb HR0_2 HB)
 (case side2 => exact HC0_2.out)
 rintro e w6 ⟨v234, rfl, ho0, hb⟩
 refine ⟨_, rfl, ?_⟩
 have n0_ := Aside0.mk (Kd.R_lower ho0 (below_size (be2 HB GE231 GE232)))
 have n1_ := bb BK231 hb
 have n2_ := bb BK232 hb
 have n3_ := Aside0.mk (below_step (be2 HB GE231 GE232) hb)
 clear BK231
 clear BK232
 clear HB
 have HO235 := n0_
 have BK231 := n1_
 have BK232 := n2_
 have HB := n3_
 clear n0_ n1_ n2_ n3_
 (try clear hb)
 (try clear hb2)
 (try clear hk)
 (try clear hi)
 (try clear ho0)
 obtain ⟨Ao7, co7, eo7⟩ := Kd.R_slice HO235.out
 (first | subst eo7 | (injection eo7 with f1_ f2_ f3_; have f4_ := f1_.symm; have f5_ := f3_.symm; clear f1_ f2_ f3_; subst f4_; subst f5_))
 refine hK.out _ _ ⟨bc0 BK231, bc1 BK231, bc2 BK231⟩ (fun hHeld => ?_)
 clear hK K
 refine norm_ (a' := ?_) ?_ ?_
 rotate_left
 ·show Act.put _ (some 9) _ = _
  simp only [aP]
  rfl
 refine py HT_ 7 10 (bv 9 0xff) ?_
 refine one_ (i := 8) (N := none) (bv 9 0x1ff) rfl rfl (one_of HT_.out (by kernel_rfl)) (by decide) (fun K hK => ?_)
 have hs8 : w6.cell? ⟨gb232, 0, none⟩ = some (.int .i64 0) := bc0 BK232
 have hfs8 := blk_frozen BK232.out 0
 have hns8_0 := NB231_232.out
 have hms8_0 := NB232_231.out
 have hs9 : w6.cell? ⟨gb232, 1, none⟩ = some (.int .i64 0) := bc1 BK232
 have hfs9 := blk_frozen BK232.out 1
 have hns9_0 := NB231_232.out
 have hms9_0 := NB232_231.out
 have hs10 : w6.cell? ⟨gb232, 2, none⟩ = some (.slice none 0 0) := bc2 BK232
 have hfs10 := blk_frozen BK232.out 2
 have hns10_0 := NB231_232.out
 have hms10_0 := NB232_231.out
 refine skip_ (w1 := ?_) (by rfl) rfl ?_ ?_
 rotate_left
 ·go_simp
  rfl
 refine hK.out _ _ ⟨((cell_far (p := ⟨gb232, _, none⟩) NB231_232.out _).trans (((cell_far (p := ⟨gb232, _, none⟩) NB231_232.out _).trans (((cell_far (p := ⟨gb232, _, none⟩) NB231_232.out _).trans (hHeld.1)))))), ((cell_far (p := ⟨gb232, _, none⟩) NB231_232.out _).trans (((cell_far (p := ⟨gb232, _, none⟩) NB231_232.out _).trans (((cell_far (p := ⟨gb232, _, none⟩) NB231_232.out _).trans (hHeld.2.1)))))), ((cell_far (p := ⟨gb232, _, none⟩) NB231_232.out _).trans (((cell_far (p := ⟨gb232, _, none⟩) NB231_232.out _).trans (((cell_far (p := ⟨gb232, _, none⟩) NB231_232.out _).trans (hHeld.2.2))))))⟩ (fun hHeld => ?_)
 clear hK K
 refine done_ (done_of HT_.out (by kernel_rfl)) ?_
 try go_wp2
 refine bodyPost_ret (results_cell_row rfl _ _ gb232 53 #[.int .i64 a0_0, .int .i64 a0_1, .slice Ao7 t233.length co7] (0, 0) _ rfl (by (with_reducible repeat (first | refine blk_drewN ?_ _ | refine blk_drew ?_ | refine blk_alloc ?_ _)); refine blk_put (cs := #[.int .i64 a0_0, .int .i64 a0_1, .slice none 0 0]) ?_ 2 _ rfl; (with_reducible repeat (first | refine blk_drewN ?_ _ | refine blk_drew ?_ | refine blk_alloc ?_ _)); refine blk_put (cs := #[.int .i64 a0_0, .int .i64 0, .slice none 0 0]) ?_ 1 _ rfl; (with_reducible repeat (first | refine blk_drewN ?_ _ | refine blk_drew ?_ | refine blk_alloc ?_ _)); refine blk_put (cs := #[.int .i64 0, .int .i64 0, .slice none 0 0]) ?_ 0 _ rfl; (with_reducible repeat (first | refine blk_drewN ?_ _ | refine blk_drew ?_ | refine blk_alloc ?_ _)); exact BK232.out) Try.underlying53 rfl (by kernel_rfl)) rfl ?_
 exact ⟨_, er, by (with_reducible repeat (first | apply Kd.R_alloc | apply Kd.R_drewN | apply Kd.R_drew)); exact Kd.R_mono (Kd.R_far (p := ⟨gb232, 2, none⟩) (Kd.R_far (p := ⟨gb232, 1, none⟩) (Kd.R_far (p := ⟨gb232, 0, none⟩) (Kd.R_types HO235.out BK232.out (by decide)) (fun _ hk => hk.2) (.int .i64 a0_0)) (fun _ hk => hk.2) (.int .i64 a0_1)) (fun _ hk => hk.2) (.slice Ao7 t233.length co7)) (fun _ hk => trivial), be2 HB GE231 GE232⟩

/-! ### impl_Item: function 108 -/
def impl_Item.f (l0 : List S84) (a1 : Int) (a2 : Int) : Option (List S84) := if 0 ≤ a1 ∧ a1 < (l0.length : Int) ∧ a2 = a1 + 1 then some (l0.eraseIdx a1.toNat) else none
def enc84 (x : S84) : List Value := [.string x.f0, .string x.f1, .int .i64 x.f2]
theorem inner84 {R : S84 → List Value → Prop} (hR : ∀ x c, R x c → c = enc84 x) : ∀ (l : List S84) (inner : List Value), Reps R 3 l inner → inner = l.flatMap enc84
 | [], inner, h => List.length_eq_zero_iff.1 (by rw [h.1]; rfl)
 | x :: l, inner, h => by
  have h0 := hR _ _ (h.2 0 x rfl)
  have hl := h.1
  rw [List.length_cons] at hl
  have ih := inner84 hR l (inner.drop 3) ⟨by rw [List.length_drop]; omega, fun j p hj => by
   have := h.2 (j + 1) p (by simpa using hj)
   rw [List.drop_drop, show 3 + j * 3 = (j + 1) * 3 by omega]
   exact this⟩
  rw [Nat.zero_mul, List.drop_zero] at h0
  rw [List.flatMap_cons, ← ih, ← h0, List.take_append_drop]
theorem drop84 : ∀ (l : List S84) (j : Nat) (p : S84), l[j]? = some p → ((l.flatMap enc84).drop (j * 3)).take 3 = enc84 p
 | [], j, p, h => by simp at h
 | x :: l, 0, p, h => by
  simp only [List.getElem?_cons_zero, Option.some.injEq] at h
  subst h
  rw [List.flatMap_cons, Nat.zero_mul, List.drop_zero]
  exact List.take_left' rfl
 | x :: l, j + 1, p, h => by
  rw [List.flatMap_cons, Nat.succ_mul]
  exact drop84 l j p (by simpa using h)
theorem len84 : ∀ l : List S84, (l.flatMap enc84).length = l.length * 3
 | [] => rfl
 | x :: l => by rw [List.flatMap_cons, List.length_append, len84 l, List.length_cons]; show 3 + l.length * 3 = _; omega
theorem erase84 : ∀ (l : List S84) (k : Nat), (l.eraseIdx k).flatMap enc84 = (l.flatMap enc84).take (k * 3) ++ (l.flatMap enc84).drop ((k + 1) * 3)
 | [], k => by simp
 | x :: l, 0 => by rw [Nat.zero_mul, List.take_zero, List.nil_append]; rfl
 | x :: l, k + 1 => by
  rw [List.eraseIdx_cons_succ, List.flatMap_cons, List.flatMap_cons, erase84 l k, Nat.succ_mul (k + 1) 3, Nat.succ_mul k 3]
  rfl
theorem one84 (l : List S84) : ∀ u ∈ l.flatMap enc84, u.oneCell' = true := by
 intro u hu
 obtain ⟨x, _, hx⟩ := List.mem_flatMap.1 hu
 simp only [enc84, List.mem_cons, List.not_mem_nil, or_false] at hx
 rcases hx with rfl | rfl | rfl <;> rfl
theorem opened84 {w : World} {base : Nat} {ok : Nat → Prop} {v : Value} {l : List S84} (h : Kd.R k84 84 w base ok v l) (hn : 0 < l.length) :
  ∃ g cap cur, v = .slice (some ⟨g, 0, none⟩) l.length cap ∧ base ≤ g ∧ w.heap[g]? = some (.cells cur 84 (0, 0)) ∧ l.length ≤ cap ∧ cap ≤ maxLen ∧ cur.size = cap * 3 ∧ cur.toList.take (l.length * 3) = l.flatMap enc84 ∧ ok g := by
 obtain ⟨h0, inner, ⟨hl, ho⟩, hr⟩ := h
 have hi := inner84 (fun x c hx => k84_openM hx) l inner hr
 rcases ho with ⟨_, h2⟩ | ⟨g, cap, cur, rfl, hg, hh, hc1, hc2, hs, ht⟩
 ·omega
 ·exact ⟨g, cap, cur, rfl, hg, hh, hc1, hc2, hs, by rw [← hi, ← ht]; rfl, h0 g (by simp [Value.ownBlock])⟩
theorem made84 {w : World} {base : Nat} {ok : Nat → Prop} {l : List S84} {g cap : Nat} {cur : Array Value} (hok : ok g) (hb : base ≤ g) (hh : w.heap[g]? = some (.cells cur 84 (0, 0))) (hc1 : l.length ≤ cap) (hc2 : cap ≤ maxLen) (hs : cur.size = cap * 3) (ht : cur.toList.take (l.length * 3) = l.flatMap enc84) :
  Kd.R k84 84 w base ok (.slice (some ⟨g, 0, none⟩) l.length cap) l := by
 refine ⟨fun k hk => ?_, l.flatMap enc84, ⟨len84 l, .inr ⟨g, cap, cur, rfl, hb, hh, hc1, hc2, hs, ht⟩⟩, len84 l, fun j p hj => ?_⟩
 ·have : g = k := by simpa [Value.ownBlock] using hk
  exact this ▸ hok
 have e := drop84 l j p hj
 show k84.M _ _ _ p (((l.flatMap enc84).drop (j * 3)).take 3)
 rw [e]
 exact k84_mkM _ _ _ p
set_option maxHeartbeats 8000000 in
set_option maxRecDepth 100000 in
theorem impl_Item.calls (P0_ : Nat → Prop) (u9000_ : Value) (l0 : List (S84)) (a1 : Int) (a2 : Int) (r : List (S84)) (w0 w : World) (hB : Below w0.heap.size w0 w) (ho0 : Kd.R k84 84 w w0.heap.size P0_ u9000_ l0) (h : impl_Item.f l0 a1 a2 = some r) :
  Calls Try.prog 108 #[u9000_, .int .i64 a1, .int .i64 a2] w fun e w' => ∃ v0_ : Value, e = .returned (v0_) ∧ Kd.R k84 84 w' w0.heap.size (fun k_ => (P0_ k_ ∨ w.heap.size ≤ k_)) v0_ r ∧ Below w0.heap.size w0 w' ∧ Kept w w' (fun k_ => P0_ k_) := by
 have h' : (if 0 ≤ a1 ∧ a1 < (l0.length : Int) ∧ a2 = a1 + 1 then some (l0.eraseIdx a1.toNat) else none) = some r := h
 clear h
 by_cases c : 0 ≤ a1 ∧ a1 < (l0.length : Int) ∧ a2 = a1 + 1
 case neg => rw [if_neg c] at h'; cases h'
 rw [if_pos c] at h'
 obtain ⟨c1, c2, rfl⟩ := c
 obtain rfl := Option.some.inj h'
 clear h'
 obtain ⟨i, rfl⟩ : ∃ i : Nat, a1 = (i : Int) := ⟨a1.toNat, by omega⟩
 have hi : i < l0.length := by omega
 obtain ⟨g, cap, cur, rfl, hg, hh, hc1, hc2, hs, ht, hok⟩ := opened84 ho0 (by omega)
 have hm : cap ≤ 9223372036854775807 := hc2
 have hlen := len84 l0
 refine (Dw.del g l0.length cap i (l0.flatMap enc84) w hlen hi hc1 hm (fun j u hu => ?_) (fun j => blk_frozen hh j) (one84 l0)).mono ?_
 ·rw [blk_cell hh, ← Array.getElem?_toList]
  have hj : j < l0.length * 3 := by
   have := (List.getElem?_eq_some_iff.1 hu).1
   omega
  rw [← List.getElem?_take_of_lt hj, ht]
  exact hu
 rintro e w' ⟨rfl, rfl⟩
 have hD : ((l0.flatMap enc84).drop ((i + 1) * 3)).length = l0.length * 3 - (i + 1) * 3 := by rw [List.length_drop, hlen]
 obtain ⟨cur1, a1_, a2_, a3_⟩ := Ow.heap_setCells g 84 ((l0.flatMap enc84).drop ((i + 1) * 3)) (i * 3) w.drew cur hh (by rw [hD]; omega)
 obtain ⟨cur2, b1_, b2_, b3_⟩ := Ow.heap_setCells g 84 Dw.zl ((l0.length - 1) * 3) _ cur1 a1_ (by show _ + 3 ≤ _; omega)
 have he : (l0.eraseIdx i).length = l0.length - 1 := List.length_eraseIdx_of_lt hi
 rw [show l0.length - 1 = (l0.eraseIdx i).length from he.symm]
 refine ⟨_, rfl, ?_, Ow.below_setCells hg _ _ _ (Ow.below_setCells hg _ _ _ hB.drew), Ow.kept_setCells (W := (w.drew.setCells g (i * 3) ((l0.flatMap enc84).drop ((i + 1) * 3)))) hok _ _ _ (Ow.kept_setCells (W := w.drew) hok _ _ _ (Kept.drew (Kept.refl w _)))⟩
 rw [he]
 rw [← he]
 refine made84 (.inl hok) hg (by rw [he]; exact b1_) (by omega) hc2 (by omega) ?_
 rw [he, b3_, a3_, erase84]
 have hct : cur.toList.take (i * 3) = (l0.flatMap enc84).take (i * 3) := by rw [← ht, List.take_take, Nat.min_eq_left (by omega)]
 rw [hct]
 have hT : ((l0.flatMap enc84).take (i * 3)).length = i * 3 := by rw [List.length_take, hlen]; omega
 have h1 : ((l0.flatMap enc84).take (i * 3) ++ (l0.flatMap enc84).drop ((i + 1) * 3)).length = (l0.length - 1) * 3 := by rw [List.length_append, hT, hD]; omega
 rw [List.take_left' h1 (l₂ := List.drop (i * 3 + ((l0.flatMap enc84).drop ((i + 1) * 3)).length) cur.toList), List.append_assoc, List.take_left' h1]


/-! ### impl_Row_asked: function 91 -/
def impl_Row_asked.f (a0_0 : Int) (a0_1 : Int) (l0_2 : List (S84)) (a1 : Int) : Option ((List (S84))) := if a0_0 = 2 then (if 0 ≤ a1 then (if a1 < (l0_2.length : Int) then ((impl_Item.f l0_2 a1 (wrap64 (a1 + 1))).bind fun t250 => ((some (([(⟨(rd_T84 l0_2 a1).f0, (rd_T84 l0_2 a1).f1, (rd_T84 l0_2 a1).f2⟩ : S84)] : List (S84)) : List (S84))).bind fun y253 => (if t250.length + y253.length < 3518437208883 then (some (t250 ++ y253)) else (none)))) else (none)) else (none)) else (if a0_0 = 3 then (if 0 ≤ a1 then (if a1 < (l0_2.length : Int) then (some (l0_2.set (a1 : Int).toNat (⟨(rd_T84 l0_2 a1).f0, (rd_T84 l0_2 a1).f1, 1⟩ : S84))) else (none)) else (none)) else (some l0_2))
def impl_Row_asked.T3 : Bool × List (List Nat × List Nat) := (true, [([], []), ([], []), ([1], [1]), ([2], [2]), ([3], [3]), ([], []), ([], []), ([6], [6]), ([4, 5, 7], [4, 5, 7]), ([], []), ([9], [9]), ([8, 10, 8], [8, 10]), ([0, 0, 1, 2, 3, 4, 5, 6, 7, 8, 9, 10, 11], [0]), ([12, 0, 1, 2, 3, 4, 5, 6, 7, 8, 9, 10, 11], [12]), ([13, 11, 11, 0, 1, 2, 3, 4, 5, 6, 7, 8, 9, 10, 11], [11, 13])])
def impl_Row_asked.B3 : List Nat := [0, 0, 2, 6, 14, 0, 0, 64, 254, 0, 512, 2046, 4095, 8191, 16383]
theorem impl_Row_asked.tab3 : rtab .any (opsOf Try.f91 3) = impl_Row_asked.T3 := by kernel_rfl
theorem impl_Row_asked.bits3 : waitsOk impl_Row_asked.T3.2 impl_Row_asked.B3 = true := by kernel_rfl
set_option maxHeartbeats 8000000 in
set_option maxRecDepth 100000 in
theorem impl_Row_asked.calls (a0_0 : Int) (a0_1 : Int) (P0_2_ : Nat → Prop) (u9000_ : Value) (l0_2 : List (S84)) (a1 : Int) (gb247 : Nat) (r : List (S84)) (w0 w : World) (hP : w.heap[gb247]? = some (.cells #[.int .i64 a0_0, .int .i64 a0_1, u9000_] 53 (0, 0))) (hW : w0.heap.size ≤ gb247) (hB : Below w0.heap.size w0 w) (ho0_2 : Kd.R k84 84 w w0.heap.size P0_2_ u9000_ l0_2) (h : impl_Row_asked.f a0_0 a0_1 l0_2 a1 = some r) :
  Calls Try.prog 91 #[.pointer (some ⟨gb247, 0, none⟩), .int .i64 a1] w fun e w' => ∃ v0_ : Value, e = .returned (.tuple #[]) ∧ w'.heap[gb247]? = some (.cells #[.int .i64 a0_0, .int .i64 a0_1, v0_] 53 (0, 0)) ∧ Kd.R k84 84 w' w0.heap.size (fun k_ => (P0_2_ k_ ∨ w.heap.size ≤ k_)) v0_ r ∧ Below w0.heap.size w0 w' ∧ Kept w w' (fun k_ => P0_2_ k_ ∨ k_ = gb247) := by
 have hu53 := Try.underlying53
 have hu84 := Try.underlying84
 have HO0_2 := Aside0.mk (show Kd.R k84 84 w w0.heap.size (fun k_ => (P0_2_ k_ ∨ w.heap.size ≤ k_)) u9000_ l0_2 from Kd.R_mono ho0_2 (fun k_ hk => (.inl hk)))
 have HK := Aside0.mk (Kept.refl w (fun k_ => P0_2_ k_ ∨ k_ = gb247))
 have HW0 := Aside0.mk hB.size
 have HB := Aside0.mk hB
 clear hB
 have BK247 := Aside0.mk hP
 have GE247 := Aside0.mk hW
 clear hP hW
 have H : (if a0_0 = 2 then (if 0 ≤ a1 then (if a1 < (l0_2.length : Int) then ((impl_Item.f l0_2 a1 (wrap64 (a1 + 1))).bind fun t250 => ((some (([(⟨(rd_T84 l0_2 a1).f0, (rd_T84 l0_2 a1).f1, (rd_T84 l0_2 a1).f2⟩ : S84)] : List (S84)) : List (S84))).bind fun y253 => (if t250.length + y253.length < 3518437208883 then (some (t250 ++ y253)) else (none)))) else (none)) else (none)) else (if a0_0 = 3 then (if 0 ≤ a1 then (if a1 < (l0_2.length : Int) then (some (l0_2.set (a1 : Int).toNat (⟨(rd_T84 l0_2 a1).f0, (rd_T84 l0_2 a1).f1, 1⟩ : S84))) else (none)) else (none)) else (some l0_2))) = some r := h
 clear h
 by_cases c3 : a0_0 = 2
 ·rw [if_pos c3] at H
  have c3b0 : (a0_0 == 2) = true := beq_iff_eq.mpr c3
  have c3b1 : (a0_0 != 2) = false := bne_eq_false_iff_eq.mpr c3
  clear c3
  by_cases c4 : 0 ≤ a1
  ·rw [if_pos c4] at H
   have c4b0 : decide (0 ≤ a1) = true := decide_eq_true c4
   clear c4
   by_cases c5 : a1 < (l0_2.length : Int)
   ·rw [if_pos c5] at H
    have c5b0 : decide (a1 < (l0_2.length : Int)) = true := decide_eq_true c5
    clear c5
    replace H := Option.bind_eq_some_iff.mp H
    obtain ⟨t250, A60, H⟩ := H
    try dsimp only at H
    have A6 := Aside0.mk A60
    clear A60
    obtain ⟨y253, hy253⟩ : ∃ y_ : List (S84), y_ = (([(⟨(rd_T84 l0_2 a1).f0, (rd_T84 l0_2 a1).f1, (rd_T84 l0_2 a1).f2⟩ : S84)] : List (S84))) := ⟨_, rfl⟩
    replace H : (if t250.length + y253.length < 3518437208883 then (some (t250 ++ y253)) else (none)) = some r := by first | (rw [hy253]; with_reducible exact H) | (have H2_ := (Option.bind_some _ _).symm.trans H; rw [hy253]; with_reducible exact H2_) | (have H2_ := (Option.bind_some _ _).symm.trans H; with_reducible exact H2_) | with_reducible exact H | (rw [hy253]; exact H) | exact H
    have Ny253 := Aside0.mk hy253
    clear hy253
    by_cases c7 : t250.length + y253.length < 3518437208883
    ·rw [if_pos c7] at H
     have LMc7 := Aside0.mk c7
     clear c7
     obtain ⟨y256, hy256⟩ : ∃ y_ : List (S84), y_ = (t250 ++ y253) := ⟨_, rfl⟩
     replace H : (some y256) = some r := by first | (rw [hy256]; with_reducible exact H) | (have H2_ := (Option.bind_some _ _).symm.trans H; rw [hy256]; with_reducible exact H2_) | (have H2_ := (Option.bind_some _ _).symm.trans H; with_reducible exact H2_) | with_reducible exact H | (rw [hy256]; exact H) | exact H
     have Ny256 := Aside0.mk hy256
     clear hy256
     obtain rfl := Option.some.inj H
     obtain ⟨Ao8, co8, eo8⟩ := Kd.R_slice HO0_2.out
     subst eo8
     go_enter Try.func91, Try.ntmps91
     have hcz10_0 := bz3 BK247
     have p248 : 0 ≤ (a1 : Int) := od
     have q248 : a1 < (l0_2.length : Int) := od
     obtain ⟨ad248, e248, hx248_0, hx248_1, hx248_2⟩ := at_T84 (Kd.R_reads' HO0_2.out).2.2 a1 p248 q248
     cases e248
     replace p248 := eq_true p248
     replace q248 := eq_true q248
     try go_wp2_with (first | ((with_reducible refine gate_dst (N := 4) rfl ?_); refine bx 4 #[.string (⟨#[]⟩ : ByteArray), .string (⟨#[]⟩ : ByteArray), .int .i64 0] 84 ?_; intro gb249 hg w11 hbox hb; replace HO0_2 := Aside0.mk (Kd.R_below (Kd.R_elderB (ro HO0_2) gb249 (Nat.le_of_eq hg.symm)) hb); have BK249 := am hbox; have GW249 := Aside0.mk ((by rw [hg]; exact (by first | exact HK.out.1 | exact (show Kept w _ (fun k_ => P0_2_ k_ ∨ k_ = gb247) from by repeat (first | (with_reducible first | exact HK.out | apply Kept.alloc | apply Kept.drewN | apply Kept.drew | refine Kept.setCell ?_ (.inl (.inr rfl)) _) | exact HK.out)).1) : w.heap.size ≤ gb249)); replace HK := Aside0.mk (Kept.below (S := (fun k_ => P0_2_ k_ ∨ k_ = gb247)) (by repeat (first | (with_reducible first | exact HK.out | apply Kept.alloc | apply Kept.drewN | apply Kept.drew | refine Kept.setCell ?_ (.inl (.inr rfl)) _) | exact HK.out)) hb); have GE249 := Aside0.mk ((by rw [hg]; exact (below_size (be1 HB GE247)) : w0.heap.size ≤ gb249)); replace HB := Aside0.mk (below_step (be1 HB GE247) hb); have NB247_249 := Aside0.mk ((by rw [hg]; exact Nat.ne_of_lt (bl BK247) : gb247 ≠ gb249)); have NB249_247 := Aside0.mk ((by rw [hg]; exact Nat.ne_of_gt (bl BK247) : gb249 ≠ gb247)); replace BK247 := bb BK247 hb; clear hb hbox hg; have hnb12 := NB249_247.out; have hnc12 := NB247_249.out; have hcz13_0 := bz3 BK249))
     have n0_ : Aside0 (Kd.R k84 84 (((w11.setCell ⟨gb249, 0, none⟩ (.string ((rd_T84 l0_2 a1).f0))).setCell ⟨gb249, 1, none⟩ (.string ((rd_T84 l0_2 a1).f1))).setCell ⟨gb249, 2, none⟩ (.int .i64 ((rd_T84 l0_2 a1).f2))) w0.heap.size (fun k_ => (P0_2_ k_ ∨ w.heap.size ≤ k_) ∧ k_ ≠ gb249) (.slice (some ad248) l0_2.length co8) l0_2) := ⟨by (with_reducible repeat (first | apply Kd.R_alloc | apply Kd.R_drewN | apply Kd.R_drew)); exact Kd.R_mono (Kd.R_far (p := ⟨gb249, 2, none⟩) (Kd.R_far (p := ⟨gb249, 1, none⟩) (Kd.R_far (p := ⟨gb249, 0, none⟩) (Kd.R_mono HO0_2.out (fun k_ hk => (⟨hk, hk.2⟩ : _ ∧ k_ ≠ gb249))) (fun _ hk => hk.2) (.string ((rd_T84 l0_2 a1).f0))) (fun _ hk => hk.2) (.string ((rd_T84 l0_2 a1).f1))) (fun _ hk => hk.2) (.int .i64 ((rd_T84 l0_2 a1).f2))) (fun _ hk => ⟨hk.1.1, hk.1.2⟩)⟩
     have n1_ : Aside0 ((((w11.setCell ⟨gb249, 0, none⟩ (.string ((rd_T84 l0_2 a1).f0))).setCell ⟨gb249, 1, none⟩ (.string ((rd_T84 l0_2 a1).f1))).setCell ⟨gb249, 2, none⟩ (.int .i64 ((rd_T84 l0_2 a1).f2))).heap[gb247]? = some (.cells #[.int .i64 a0_0, .int .i64 a0_1, .slice (some ad248) l0_2.length co8] 53 (0, 0))) := ⟨by (with_reducible repeat (first | refine blk_drewN ?_ _ | refine blk_drew ?_ | refine blk_alloc ?_ _)); refine blk_far ?_ NB247_249.out _; (with_reducible repeat (first | refine blk_drewN ?_ _ | refine blk_drew ?_ | refine blk_alloc ?_ _)); refine blk_far ?_ NB247_249.out _; (with_reducible repeat (first | refine blk_drewN ?_ _ | refine blk_drew ?_ | refine blk_alloc ?_ _)); refine blk_far ?_ NB247_249.out _; (with_reducible repeat (first | refine blk_drewN ?_ _ | refine blk_drew ?_ | refine blk_alloc ?_ _)); exact BK247.out⟩
     have n2_ : Aside0 ((((w11.setCell ⟨gb249, 0, none⟩ (.string ((rd_T84 l0_2 a1).f0))).setCell ⟨gb249, 1, none⟩ (.string ((rd_T84 l0_2 a1).f1))).setCell ⟨gb249, 2, none⟩ (.int .i64 ((rd_T84 l0_2 a1).f2))).heap[gb249]? = some (.cells #[.string ((rd_T84 l0_2 a1).f0), .string ((rd_T84 l0_2 a1).f1), .int .i64 ((rd_T84 l0_2 a1).f2)] 84 (0, 0))) := ⟨by (with_reducible repeat (first | refine blk_drewN ?_ _ | refine blk_drew ?_ | refine blk_alloc ?_ _)); refine blk_put (cs := #[.string ((rd_T84 l0_2 a1).f0), .string ((rd_T84 l0_2 a1).f1), .int .i64 0]) ?_ 2 _ rfl; (with_reducible repeat (first | refine blk_drewN ?_ _ | refine blk_drew ?_ | refine blk_alloc ?_ _)); refine blk_put (cs := #[.string ((rd_T84 l0_2 a1).f0), .string (⟨#[]⟩ : ByteArray), .int .i64 0]) ?_ 1 _ rfl; (with_reducible repeat (first | refine blk_drewN ?_ _ | refine blk_drew ?_ | refine blk_alloc ?_ _)); refine blk_put (cs := #[.string (⟨#[]⟩ : ByteArray), .string (⟨#[]⟩ : ByteArray), .int .i64 0]) ?_ 0 _ rfl; (with_reducible repeat (first | refine blk_drewN ?_ _ | refine blk_drew ?_ | refine blk_alloc ?_ _)); exact BK249.out⟩
     have n3_ : Aside0 (Kept w (((w11.setCell ⟨gb249, 0, none⟩ (.string ((rd_T84 l0_2 a1).f0))).setCell ⟨gb249, 1, none⟩ (.string ((rd_T84 l0_2 a1).f1))).setCell ⟨gb249, 2, none⟩ (.int .i64 ((rd_T84 l0_2 a1).f2))) (fun k_ => P0_2_ k_ ∨ k_ = gb247)) := ⟨by repeat (first | (with_reducible first | exact HK.out | apply Kept.alloc | apply Kept.drewN | apply Kept.drew | refine Kept.setCell ?_ (.inl (.inr rfl)) _ | refine Kept.setCell ?_ (.inr GW249.out) _) | exact HK.out)⟩
     have n4_ : Aside0 (Below w0.heap.size w0 (((w11.setCell ⟨gb249, 0, none⟩ (.string ((rd_T84 l0_2 a1).f0))).setCell ⟨gb249, 1, none⟩ (.string ((rd_T84 l0_2 a1).f1))).setCell ⟨gb249, 2, none⟩ (.int .i64 ((rd_T84 l0_2 a1).f2)))) := ⟨be2 HB GE247 GE249⟩
     (try clear HO0_2)
     (try clear BK247)
     (try clear BK249)
     (try clear HK)
     (try clear HB)
     generalize (((w11.setCell ⟨gb249, 0, none⟩ (.string ((rd_T84 l0_2 a1).f0))).setCell ⟨gb249, 1, none⟩ (.string ((rd_T84 l0_2 a1).f1))).setCell ⟨gb249, 2, none⟩ (.int .i64 ((rd_T84 l0_2 a1).f2))) = w14 at n0_ n1_ n2_ n3_ n4_ ⊢
     have HO0_2 := n0_
     have BK247 := n1_
     have BK249 := n2_
     have HK := n3_
     have HB := n4_
     clear n0_ n1_ n2_ n3_ n4_
     have n0_ := Aside0.mk (Kd.R_drew HO0_2.out)
     have n1_ := Aside0.mk (blk_drew BK247.out)
     have n2_ := Aside0.mk (blk_drew BK249.out)
     have n3_ := Aside0.mk (Kept.drew HK.out)
     have n4_ := Aside0.mk (below_drew1 HB.out)
     clear HO0_2
     clear BK247
     clear BK249
     clear HK
     clear HB
     have HO0_2 := n0_
     have BK247 := n1_
     have BK249 := n2_
     have HK := n3_
     have HB := n4_
     clear n0_ n1_ n2_ n3_ n4_
     refine start_ (n := 15) (S := fun w' => w'.cell? ⟨gb247, 0, none⟩ = some (.int .i64 a0_0) ∧ w'.cell? ⟨gb247, 1, none⟩ = some (.int .i64 a0_1) ∧ w'.cell? ⟨gb247, 2, none⟩ = some (.slice (some ad248) l0_2.length co8) ∧ w'.cell? ⟨gb249, 0, none⟩ = some (.string ((rd_T84 l0_2 a1).f0)) ∧ w'.cell? ⟨gb249, 1, none⟩ = some (.string ((rd_T84 l0_2 a1).f1)) ∧ w'.cell? ⟨gb249, 2, none⟩ = some (.int .i64 ((rd_T84 l0_2 a1).f2))) (ds := [14]) (bv 15 0x0) (by kernel_rfl) rfl rfl ⟨bc0 BK247, bc1 BK247, bc2 BK247, bc0 BK249, bc1 BK249, bc2 BK249⟩ (fun hHeld => ?_); refine with_tabW impl_Row_asked.tab3 impl_Row_asked.bits3 (fun HT_ HW_ => ?_)
     generalize w14.drew = w15 at HO0_2 BK247 BK249 HK HB hHeld ⊢
     refine py HT_ 0 18 (bv 15 0x1) ?_
     refine py HT_ 1 19 (bv 15 0x3) ?_
     refine py HT_ 2 20 (bv 15 0x7) ?_
     refine py HT_ 3 21 (bv 15 0xf) ?_
     refine py HT_ 5 23 (bv 15 0x2f) ?_
     refine py HT_ 6 24 (bv 15 0x6f) ?_
     refine py HT_ 7 25 (bv 15 0xef) ?_
     refine tk HT_ HW_ hHeld 4 22 (bv 15 0xff) ?_
     refine tk HT_ HW_ hHeld 9 27 (bv 15 0x2ff) ?_
     refine join_ (σ := Value × Value) 4 (bv 15 0x7ff) (fun s_ => [(26, s_.1), (28, s_.2)]) (fun s_ w' => (w'.cell? ⟨gb247, 0, none⟩ = some (.int .i64 a0_0) ∧ w'.cell? ⟨gb247, 1, none⟩ = some (.int .i64 a0_1) ∧ w'.cell? ⟨gb247, 2, none⟩ = some (.slice (some ad248) l0_2.length co8) ∧ w'.cell? ⟨gb249, 0, none⟩ = some (.string ((rd_T84 l0_2 a1).f0)) ∧ w'.cell? ⟨gb249, 1, none⟩ = some (.string ((rd_T84 l0_2 a1).f1)) ∧ w'.cell? ⟨gb249, 2, none⟩ = some (.int .i64 ((rd_T84 l0_2 a1).f2))) ∧ (Kd.R k84 84 w' w0.heap.size (fun k_ => (P0_2_ k_ ∨ w.heap.size ≤ k_) ∧ some k_ ≠ (s_.2 : Value).ownBlock ∧ k_ ≠ gb249) s_.1 t250) ∧ (Kd.R k84 84 w' w0.heap.size (fun k_ => (P0_2_ k_ ∨ w.heap.size ≤ k_) ∧ some k_ ≠ (s_.1 : Value).ownBlock ∧ k_ ≠ gb249) s_.2 y253) ∧ (w'.heap[gb247]? = some (.cells #[.int .i64 a0_0, .int .i64 a0_1, .slice (some ad248) l0_2.length co8] 53 (0, 0))) ∧ (w'.heap[gb249]? = some (.cells #[.string ((rd_T84 l0_2 a1).f0), .string ((rd_T84 l0_2 a1).f1), .int .i64 ((rd_T84 l0_2 a1).f2)] 84 (0, 0))) ∧ (Kept w w' (fun k_ => P0_2_ k_ ∨ k_ = gb247)) ∧ (Below w0.heap.size w0 w')) ?_ ?_
     rotate_left
     ·intro hCont
      refine two_ (i := 8) (j := 10) (Ni := some 26) (Nj := some 28) (bv 15 0x3ff) (bv 15 0x6ff) rfl rfl rfl rfl (two_of HT_.out (by kernel_rfl)) (by decide) (by decide) (fun K hK => ?_) (fun K hK => ?_)
      ·skip
       refine goes_ Try.func108 (by kernel_rfl) rfl #[.slice (some ad248) l0_2.length co8, .int .i64 a1, .int .i64 (wrap64 (a1 + 1))] (by rfl) rfl rfl ml ?_
       with_reducible refine (impl_Item.calls (fun k_ => some k_ = (.slice (some ad248) l0_2.length co8 : Value).ownBlock) (.slice (some ad248) l0_2.length co8) l0_2 a1 (wrap64 (a1 + 1)) t250 w0 _ ?side1 ?side2 A6.out).mono ?_
       (case side1 => repeat (first | (with_reducible first | exact HB.out | apply below_alloc | apply pw_below_drewN | apply below_drew1 | refine below_set ?_ GE247.out | refine below_set ?_ GE249.out) | exact HB.out))
       (case side2 => exact Kd.R_tight rfl HO0_2.out)
       rintro e w16 ⟨v251, rfl, ho0, hb, hkp⟩
       refine ⟨_, rfl, ?_⟩
       have n0_ := Aside0.mk (blk_kept (bk BK247) hkp (fun hs_ => (fun e_ => (Kd.R_ne HO0_2.out BK247.out (by decide)) e_) hs_))
       have n1_ := Aside0.mk (blk_kept (bk BK249) hkp (fun hs_ => (fun e_ => (Kd.R_away HO0_2.out (fun _ hk => hk.2)) e_) hs_))
       have n2_ := Aside0.mk (Kd.R_mono (ok' := fun k_ => (P0_2_ k_ ∨ w.heap.size ≤ k_) ∧ k_ ≠ gb249) ho0 (fun k_ hk_ => ⟨Or.elim hk_ (fun hs_ => (HO0_2.out.1 k_ (hs_).symm).1) (fun hn_ => (.inr (Nat.le_trans (by first | exact HK.out.1 | exact (show Kept w _ (fun k_ => P0_2_ k_ ∨ k_ = gb247) from by repeat (first | (with_reducible first | exact HK.out | apply Kept.alloc | apply Kept.drewN | apply Kept.drew | refine Kept.setCell ?_ (.inl (.inr rfl)) _ | refine Kept.setCell ?_ (.inr GW249.out) _) | exact HK.out)).1) hn_))), Or.elim hk_ (fun hs_ => fun e_ => (Kd.R_away HO0_2.out (fun _ hk => hk.2)) (by rw [← e_]; exact hs_)) (fun hn_ => (Kd.freshB (g := gb249) (o := .cells #[.string ((rd_T84 l0_2 a1).f0), .string ((rd_T84 l0_2 a1).f1), .int .i64 ((rd_T84 l0_2 a1).f2)] 84 (0, 0)) (bk BK249) k_ hn_))⟩))
       have n3_ := Aside0.mk (Kept.then_ (S := (fun k_ => P0_2_ k_ ∨ k_ = gb247)) (by repeat (first | (with_reducible first | exact HK.out | apply Kept.alloc | apply Kept.drewN | apply Kept.drew | refine Kept.setCell ?_ (.inl (.inr rfl)) _ | refine Kept.setCell ?_ (.inr GW249.out) _) | exact HK.out)) hkp (fun k_ hs_ => Or.imp_left Or.inl ((fun e_ => (HO0_2.out.1 k_ e_.symm).1) hs_)))
       have n4_ := Aside0.mk (hb)
       clear BK247
       clear BK249
       clear HK
       clear HB
       clear HO0_2
       have BK247 := n0_
       have BK249 := n1_
       have HO252 := n2_
       have HK := n3_
       have HB := n4_
       clear n0_ n1_ n2_ n3_ n4_
       (try clear hb)
       (try clear hkp)
       (try clear ho0)
       refine hK.out _ _ ⟨bc0 BK247, bc1 BK247, bc2 BK247, bc0 BK249, bc1 BK249, bc2 BK249⟩ (fun hHeld => ?_)
       clear hK K
       refine norm_ (a' := ?_) ?_ ?_
       rotate_left
       ·show Act.put _ (some 26) _ = _
        simp only [aP]
        rfl
       refine one_ (i := 10) (N := some 28) (bv 15 0x7ff) rfl rfl (one_of HT_.out (by kernel_rfl)) (by decide) (fun K hK => ?_)
       refine Kd.R_lit_step k84 _ 84 ?hg (N := 28) ?hd (xs := ([(⟨(rd_T84 l0_2 a1).f0, (rd_T84 l0_2 a1).f1, (rd_T84 l0_2 a1).f2⟩ : S84)] : List (S84))) (inner := [.string ((rd_T84 l0_2 a1).f0), .string ((rd_T84 l0_2 a1).f1), .int .i64 ((rd_T84 l0_2 a1).f2)]) (ok := fun _ => True) (okp := fun _ => True) ?hr ?hp (fun _ hk => hk) trivial (Below.refl _ _) (Nat.le_refl _) (by simp) ?_; (case hd => rfl); (case hg => rfl); (case hr => first | (go_simp; done) | (go_simp; rfl)); (case hp => exact (Reps.c3 (show Kd.M k84 _ _ _ (⟨(rd_T84 l0_2 a1).f0, (rd_T84 l0_2 a1).f1, (rd_T84 l0_2 a1).f2⟩ : S84) [.string ((rd_T84 l0_2 a1).f0), .string ((rd_T84 l0_2 a1).f1), .int .i64 ((rd_T84 l0_2 a1).f2)] from (k84_mkM _ _ _ (⟨(rd_T84 l0_2 a1).f0, (rd_T84 l0_2 a1).f1, (rd_T84 l0_2 a1).f2⟩ : S84) )) (Reps.none _ _)))
       intro v254 w17 ho18 hb hg_ hnew_
       clear hg_ hnew_
       (first | rw [← Ny253.out] at ho18 | (simp only [Int.reduceToNat] at ho18; rw [← Ny253.out] at ho18))
       have n0_ := Aside0.mk (Kd.R_elder' (ro HO252) (Kd.R_base ho18) hb)
       have n1_ := Aside0.mk (Kd.R_lower (Kd.R_newB (nw (Kd.R_newM (M := fun k_ => (P0_2_ k_ ∨ w.heap.size ≤ k_)) ho18 (by first | exact HK.out.1 | exact (show Kept w _ (fun k_ => P0_2_ k_ ∨ k_ = gb247) from by repeat (first | (with_reducible first | exact HK.out | apply Kept.alloc | apply Kept.drewN | apply Kept.drew | refine Kept.setCell ?_ (.inl (.inr rfl)) _ | refine Kept.setCell ?_ (.inr GW249.out) _) | exact HK.out)).1) (fun k_ h_ => .inr h_)) HO252) (g := gb249) (o := .cells #[.string ((rd_T84 l0_2 a1).f0), .string ((rd_T84 l0_2 a1).f1), .int .i64 ((rd_T84 l0_2 a1).f2)] 84 (0, 0)) (bk BK249)) (below_size (be2 HB GE247 GE249)))
       have n2_ := bb BK247 hb
       have n3_ := bb BK249 hb
       have n4_ := Aside0.mk (Kept.below (S := (fun k_ => P0_2_ k_ ∨ k_ = gb247)) (by repeat (first | (with_reducible first | exact HK.out | apply Kept.alloc | apply Kept.drewN | apply Kept.drew | refine Kept.setCell ?_ (.inl (.inr rfl)) _ | refine Kept.setCell ?_ (.inr GW249.out) _) | exact HK.out)) hb)
       have n5_ := Aside0.mk (below_step (be2 HB GE247 GE249) hb)
       clear HO252
       clear BK247
       clear BK249
       clear HK
       clear HB
       have HO252 := n0_
       have HO255 := n1_
       have BK247 := n2_
       have BK249 := n3_
       have HK := n4_
       have HB := n5_
       clear n0_ n1_ n2_ n3_ n4_ n5_
       clear hb ho18
       refine hK.out _ _ ⟨bc0 BK247, bc1 BK247, bc2 BK247, bc0 BK249, bc1 BK249, bc2 BK249⟩ (fun hHeld => ?_)
       clear hK K
       refine norm_ (a' := ?_) ?_ ?_
       rotate_left
       ·show Act.put _ (some 28) _ = _
        simp only [aP]
        rfl
       exact norm_ (by simp only [putAll, Act.put, List.setIfInBounds_toArray, List.set_cons_zero, List.set_cons_succ]) (hCont (v251, v254) _ ⟨hHeld, (by (with_reducible repeat (first | apply Kd.R_alloc | apply Kd.R_drewN | apply Kd.R_drew)); exact rm HO252), (by (with_reducible repeat (first | apply Kd.R_alloc | apply Kd.R_drewN | apply Kd.R_drew)); exact rm HO255), (bk BK247), (bk BK249), (by repeat (first | (with_reducible first | exact HK.out | apply Kept.alloc | apply Kept.drewN | apply Kept.drew | refine Kept.setCell ?_ (.inl (.inr rfl)) _ | refine Kept.setCell ?_ (.inr GW249.out) _) | exact HK.out)), (be2 HB GE247 GE249)⟩)
      skip
      refine Kd.R_lit_step k84 _ 84 ?hg (N := 28) ?hd (xs := ([(⟨(rd_T84 l0_2 a1).f0, (rd_T84 l0_2 a1).f1, (rd_T84 l0_2 a1).f2⟩ : S84)] : List (S84))) (inner := [.string ((rd_T84 l0_2 a1).f0), .string ((rd_T84 l0_2 a1).f1), .int .i64 ((rd_T84 l0_2 a1).f2)]) (ok := fun _ => True) (okp := fun _ => True) ?hr ?hp (fun _ hk => hk) trivial (Below.refl _ _) (Nat.le_refl _) (by simp) ?_; (case hd => rfl); (case hg => rfl); (case hr => first | (go_simp; done) | (go_simp; rfl)); (case hp => exact (Reps.c3 (show Kd.M k84 _ _ _ (⟨(rd_T84 l0_2 a1).f0, (rd_T84 l0_2 a1).f1, (rd_T84 l0_2 a1).f2⟩ : S84) [.string ((rd_T84 l0_2 a1).f0), .string ((rd_T84 l0_2 a1).f1), .int .i64 ((rd_T84 l0_2 a1).f2)] from (k84_mkM _ _ _ (⟨(rd_T84 l0_2 a1).f0, (rd_T84 l0_2 a1).f1, (rd_T84 l0_2 a1).f2⟩ : S84) )) (Reps.none _ _)))
      intro v254 w16 ho17 hb hg_ hnew_
      clear hg_ hnew_
      (first | rw [← Ny253.out] at ho17 | (simp only [Int.reduceToNat] at ho17; rw [← Ny253.out] at ho17))
      have n0_ := Aside0.mk (Kd.R_elder' (ro HO0_2) (Kd.R_base ho17) hb)
      have n1_ := Aside0.mk (Kd.R_lower (Kd.R_newB (nw (Kd.R_newM (M := fun k_ => (P0_2_ k_ ∨ w.heap.size ≤ k_)) ho17 (by first | exact HK.out.1 | exact (show Kept w _ (fun k_ => P0_2_ k_ ∨ k_ = gb247) from by repeat (first | (with_reducible first | exact HK.out | apply Kept.alloc | apply Kept.drewN | apply Kept.drew | refine Kept.setCell ?_ (.inl (.inr rfl)) _ | refine Kept.setCell ?_ (.inr GW249.out) _) | exact HK.out)).1) (fun k_ h_ => .inr h_)) HO0_2) (g := gb249) (o := .cells #[.string ((rd_T84 l0_2 a1).f0), .string ((rd_T84 l0_2 a1).f1), .int .i64 ((rd_T84 l0_2 a1).f2)] 84 (0, 0)) (bk BK249)) (below_size (be2 HB GE247 GE249)))
      have n2_ := bb BK247 hb
      have n3_ := bb BK249 hb
      have n4_ := Aside0.mk (Kept.below (S := (fun k_ => P0_2_ k_ ∨ k_ = gb247)) (by repeat (first | (with_reducible first | exact HK.out | apply Kept.alloc | apply Kept.drewN | apply Kept.drew | refine Kept.setCell ?_ (.inl (.inr rfl)) _ | refine Kept.setCell ?_ (.inr GW249.out) _) | exact HK.out)) hb)
      have n5_ := Aside0.mk (below_step (be2 HB GE247 GE249) hb)
      clear HO0_2
      clear BK247
      clear BK249
      clear HK
      clear HB
      have HO0_2 := n0_
      have HO255 := n1_
      have BK247 := n2_
      have BK249 := n3_
      have HK := n4_
      have HB := n5_
      clear n0_ n1_ n2_ n3_ n4_ n5_
      clear hb ho17
      refine hK.out _ _ ⟨bc0 BK247, bc1 BK247, bc2 BK247, bc0 BK249, bc1 BK249, bc2 BK249⟩ (fun hHeld => ?_)
      clear hK K
      refine norm_ (a' := ?_) ?_ ?_
      rotate_left
      ·show Act.put _ (some 28) _ = _
       simp only [aP]
       rfl
      refine one_ (i := 8) (N := some 26) (bv 15 0x7ff) rfl rfl (one_of HT_.out (by kernel_rfl)) (by decide) (fun K hK => ?_)
      refine goes_ Try.func108 (by kernel_rfl) rfl #[.slice (some ad248) l0_2.length co8, .int .i64 a1, .int .i64 (wrap64 (a1 + 1))] (by rfl) rfl rfl ml ?_
      with_reducible refine (impl_Item.calls (fun k_ => some k_ = (.slice (some ad248) l0_2.length co8 : Value).ownBlock) (.slice (some ad248) l0_2.length co8) l0_2 a1 (wrap64 (a1 + 1)) t250 w0 _ ?side1 ?side2 A6.out).mono ?_
      (case side1 => repeat (first | (with_reducible first | exact HB.out | apply below_alloc | apply pw_below_drewN | apply below_drew1 | refine below_set ?_ GE247.out | refine below_set ?_ GE249.out) | exact HB.out))
      (case side2 => exact Kd.R_tight rfl HO0_2.out)
      rintro e w18 ⟨v251, rfl, ho0, hb, hkp⟩
      refine ⟨_, rfl, ?_⟩
      have n0_ := Aside0.mk (blk_kept (bk BK247) hkp (fun hs_ => (fun e_ => (Kd.R_ne HO0_2.out BK247.out (by decide)) e_) hs_))
      have n1_ := Aside0.mk (blk_kept (bk BK249) hkp (fun hs_ => (fun e_ => (Kd.R_away HO0_2.out (fun _ hk => hk.1.2)) e_) hs_))
      have n2_ := Aside0.mk (Kd.R_mono (ok' := fun k_ => (P0_2_ k_ ∨ w.heap.size ≤ k_) ∧ k_ ≠ gb249 ∧ some k_ ≠ (v251 : Value).ownBlock) (Kd.R_keptB (HO255.out) hkp (fun k_ hk_ hs_ => by first | exact hk_.1.2 hs_ | exact hk_ hs_ | exact hk_.1 hs_ | exact hk_.2 hs_ | exact hk_.1.1 hs_ | exact hk_.1.2 hs_ | exact hk_.2.1 hs_ | exact hk_.2.2 hs_ | exact hk_.1.1.1 hs_ | exact hk_.1.1.2 hs_ | exact hk_.1.2.1 hs_ | exact hk_.1.2.2 hs_ | exact hk_.2.1.1 hs_ | exact hk_.2.1.2 hs_ | exact hk_.2.2.1 hs_ | exact hk_.2.2.2 hs_ | exact hk_.1.1.1.1 hs_ | exact hk_.1.1.1.2 hs_ | exact hk_.1.1.2.1 hs_ | exact hk_.1.1.2.2 hs_ | exact hk_.1.2.1.1 hs_ | exact hk_.1.2.1.2 hs_ | exact hk_.1.2.2.1 hs_ | exact hk_.1.2.2.2 hs_ | exact hk_.2.1.1.1 hs_ | exact hk_.2.1.1.2 hs_ | exact hk_.2.1.2.1 hs_ | exact hk_.2.1.2.2 hs_ | exact hk_.2.2.1.1 hs_ | exact hk_.2.2.1.2 hs_ | exact hk_.2.2.2.1 hs_ | exact hk_.2.2.2.2 hs_)) (fun k_ hk_ => ⟨hk_.1.1.1.1, hk_.1.2, fun e_ => Or.elim (ho0.1 k_ e_.symm) (fun hs_ => hk_.2.1 hs_) (fun hn_ => Nat.not_le.2 hk_.2.2 hn_)⟩))
      have n3_ := Aside0.mk (Kd.R_mono (ok' := fun k_ => (P0_2_ k_ ∨ w.heap.size ≤ k_) ∧ some k_ ≠ (v254 : Value).ownBlock ∧ k_ ≠ gb249) ho0 (fun k_ hk_ => ⟨Or.elim hk_ (fun hs_ => (HO0_2.out.1 k_ (hs_).symm).1.1) (fun hn_ => (.inr (Nat.le_trans (by first | exact HK.out.1 | exact (show Kept w _ (fun k_ => P0_2_ k_ ∨ k_ = gb247) from by repeat (first | (with_reducible first | exact HK.out | apply Kept.alloc | apply Kept.drewN | apply Kept.drew | refine Kept.setCell ?_ (.inl (.inr rfl)) _ | refine Kept.setCell ?_ (.inr GW249.out) _) | exact HK.out)).1) hn_))), Or.elim hk_ (fun hs_ => fun e_ => (((HO255.out).1 k_ e_.symm).1.2) hs_) (fun hn_ => (Kd.fresh' (Kd.R_lt (ro HO255)) k_ hn_)), Or.elim hk_ (fun hs_ => fun e_ => (Kd.R_away HO0_2.out (fun _ hk => hk.1.2)) (by rw [← e_]; exact hs_)) (fun hn_ => (Kd.freshB (g := gb249) (o := .cells #[.string ((rd_T84 l0_2 a1).f0), .string ((rd_T84 l0_2 a1).f1), .int .i64 ((rd_T84 l0_2 a1).f2)] 84 (0, 0)) (bk BK249) k_ hn_))⟩))
      have n4_ := Aside0.mk (Kept.then_ (S := (fun k_ => P0_2_ k_ ∨ k_ = gb247)) (by repeat (first | (with_reducible first | exact HK.out | apply Kept.alloc | apply Kept.drewN | apply Kept.drew | refine Kept.setCell ?_ (.inl (.inr rfl)) _ | refine Kept.setCell ?_ (.inr GW249.out) _) | exact HK.out)) hkp (fun k_ hs_ => Or.imp_left Or.inl ((fun e_ => (HO0_2.out.1 k_ e_.symm).1.1) hs_)))
      have n5_ := Aside0.mk (hb)
      clear BK247
      clear BK249
      clear HO255
      clear HK
      clear HB
      clear HO0_2
      have BK247 := n0_
      have BK249 := n1_
      have HO255 := n2_
      have HO252 := n3_
      have HK := n4_
      have HB := n5_
      clear n0_ n1_ n2_ n3_ n4_ n5_
      (try clear hb)
      (try clear hkp)
      (try clear ho0)
      refine hK.out _ _ ⟨bc0 BK247, bc1 BK247, bc2 BK247, bc0 BK249, bc1 BK249, bc2 BK249⟩ (fun hHeld => ?_)
      clear hK K
      refine norm_ (a' := ?_) ?_ ?_
      rotate_left
      ·show Act.put _ (some 26) _ = _
       simp only [aP]
       rfl
      exact norm_ (by simp only [putAll, Act.put, List.setIfInBounds_toArray, List.set_cons_zero, List.set_cons_succ]) (hCont (v251, v254) _ ⟨hHeld, (ro HO252), (by (with_reducible repeat (first | apply Kd.R_alloc | apply Kd.R_drewN | apply Kd.R_drew)); exact rm HO255), (bk BK247), (bk BK249), (by repeat (first | (with_reducible first | exact HK.out | apply Kept.alloc | apply Kept.drewN | apply Kept.drew | refine Kept.setCell ?_ (.inl (.inr rfl)) _ | refine Kept.setCell ?_ (.inr GW249.out) _) | exact HK.out)), (be2 HB GE247 GE249)⟩)
     rintro ⟨v251, v254⟩ w19 ⟨hS_, h0_, h1_, h2_, h3_, h4_, h5_⟩
     have n0_ : Aside0 (Kd.R k84 84 w19 w0.heap.size (fun k_ => (P0_2_ k_ ∨ w.heap.size ≤ k_) ∧ some k_ ≠ (v254 : Value).ownBlock ∧ k_ ≠ gb249) v251 t250) := ⟨h0_⟩
     have n1_ : Aside0 (Kd.R k84 84 w19 w0.heap.size (fun k_ => (P0_2_ k_ ∨ w.heap.size ≤ k_) ∧ some k_ ≠ (v251 : Value).ownBlock ∧ k_ ≠ gb249) v254 y253) := ⟨h1_⟩
     have n2_ : Aside0 (w19.heap[gb247]? = some (.cells #[.int .i64 a0_0, .int .i64 a0_1, .slice (some ad248) l0_2.length co8] 53 (0, 0))) := ⟨h2_⟩
     have n3_ : Aside0 (w19.heap[gb249]? = some (.cells #[.string ((rd_T84 l0_2 a1).f0), .string ((rd_T84 l0_2 a1).f1), .int .i64 ((rd_T84 l0_2 a1).f2)] 84 (0, 0))) := ⟨h3_⟩
     have n4_ : Aside0 (Kept w w19 (fun k_ => P0_2_ k_ ∨ k_ = gb247)) := ⟨h4_⟩
     have n5_ : Aside0 (Below w0.heap.size w0 w19) := ⟨h5_⟩
     clear HO0_2
     clear BK247
     clear BK249
     clear HK
     clear HB
     clear h0_ h1_ h2_ h3_ h4_ h5_
     have HO252 := n0_
     have HO255 := n1_
     have BK247 := n2_
     have BK249 := n3_
     have HK := n4_
     have HB := n5_
     clear n0_ n1_ n2_ n3_ n4_ n5_
     have hHeld : w19.cell? ⟨gb247, 0, none⟩ = some (.int .i64 a0_0) ∧ w19.cell? ⟨gb247, 1, none⟩ = some (.int .i64 a0_1) ∧ w19.cell? ⟨gb247, 2, none⟩ = some (.slice (some ad248) l0_2.length co8) ∧ w19.cell? ⟨gb249, 0, none⟩ = some (.string ((rd_T84 l0_2 a1).f0)) ∧ w19.cell? ⟨gb249, 1, none⟩ = some (.string ((rd_T84 l0_2 a1).f1)) ∧ w19.cell? ⟨gb249, 2, none⟩ = some (.int .i64 ((rd_T84 l0_2 a1).f2)) := hS_
     obtain ⟨Ao21, co21, eo21⟩ := Kd.R_slice HO255.out
     (first | subst eo21 | (injection eo21 with f1_ f2_ f3_; have f4_ := f1_.symm; have f5_ := f3_.symm; clear f1_ f2_ f3_; subst f4_; subst f5_))
     refine norm_ (a' := ?_) ?_ ?_
     rotate_left
     ·simp only [putAll, Act.put, List.setIfInBounds_toArray, List.set_cons_zero, List.set_cons_succ]
      rfl
     refine one_ (i := 11) (N := some 29) (bv 15 0xfff) rfl rfl (one_of HT_.out (by kernel_rfl)) (by decide) (fun K hK => ?_)
     refine Kd.R_append_rows_step k84 (w0 := w0) w0.heap.size (by rfl) (.tmp 26) (.tmp 28) 51 84 (.agg #[(.string ⟨#[]⟩), (.string ⟨#[]⟩), (.int .i64 0)]) 40 rfl Try.underlying51 info84 rfl (by decide) (by omega) v251 t250 y253 _ _ _ (fun k_ => (P0_2_ k_ ∨ w.heap.size ≤ k_) ∧ nb k_ Ao21 y253.length co21 ∧ k_ ≠ gb249) (fun _ => False) rfl rfl ?aO ?aR (fun _ _ h => h) (fun _ h => h.elim) ?aF ?aB ?aS ?aL ?_
     (case aR => repeat (first | exact (Kd.R_reads' HO255.out).2.2 | (with_reducible refine Kd.C_alloc ?_ _) | (with_reducible refine Kd.C_drewN ?_ _) | (with_reducible refine Kd.C_drew ?_)))
     (case aB => exact (be2 HB GE247 GE249))
     (case aF => exact (fun k_ hk => ⟨(.inr (Nat.le_trans (by first | exact HK.out.1 | exact (show Kept w _ (fun k_ => P0_2_ k_ ∨ k_ = gb247) from by repeat (first | (with_reducible first | exact HK.out | apply Kept.alloc | apply Kept.drewN | apply Kept.drew | refine Kept.setCell ?_ (.inl (.inr rfl)) _ | refine Kept.setCell ?_ (.inr GW249.out) _) | exact HK.out)).1) hk)), Kd.fresh' (Kd.R_lt (ro HO255)) k_ hk, Kd.freshB (g := gb249) (o := .cells #[.string ((rd_T84 l0_2 a1).f0), .string ((rd_T84 l0_2 a1).f1), .int .i64 ((rd_T84 l0_2 a1).f2)] 84 (0, 0)) (bk BK249) k_ hk⟩))
     (case aO => exact (ro HO252))
     (case aS => exact (below_size (be2 HB GE247 GE249)))
     (case aL => have := LMc7.out; omega)
     intro v257 w20 ho hb hg hat
     rw [← Ny256.out] at ho
     have n0_ := Aside0.mk (blk_grown (g := gb247) (o := .cells #[.int .i64 a0_0, .int .i64 a0_1, .slice (some ad248) l0_2.length co8] 53 (0, 0)) (bk BK247) hg (Kd.R_ne HO252.out BK247.out (by decide)))
     have n1_ := Aside0.mk (blk_grown (g := gb249) (o := .cells #[.string ((rd_T84 l0_2 a1).f0), .string ((rd_T84 l0_2 a1).f1), .int .i64 ((rd_T84 l0_2 a1).f2)] 84 (0, 0)) (bk BK249) hg (Kd.R_away HO252.out (fun _ hk => hk.2.2)))
     have n2_ := Aside0.mk (Kd.R_after (ok := (fun k_ => (P0_2_ k_ ∨ w.heap.size ≤ k_) ∧ k_ ≠ gb249)) (by (with_reducible repeat (first | apply Kd.R_alloc | apply Kd.R_drewN | apply Kd.R_drew)); exact rm HO255) hg hat)
     have n3_ := Aside0.mk (hb)
     have n4_ := Aside0.mk (Kept.of_grown (S := (fun k_ => P0_2_ k_ ∨ k_ = gb247)) hg (by repeat (first | (with_reducible first | exact HK.out | apply Kept.alloc | apply Kept.drewN | apply Kept.drew | refine Kept.setCell ?_ (.inl (.inr rfl)) _ | refine Kept.setCell ?_ (.inr GW249.out) _) | exact HK.out)) (fun k_ e_ => Or.imp_left Or.inl ((HO252.out.1 k_ e_).1)))
     have n5_ := Aside0.mk (ho)
     clear BK247
     clear BK249
     clear HO255
     clear HB
     clear HK
     clear HO252
     have BK247 := n0_
     have BK249 := n1_
     have HO255 := n2_
     have HB := n3_
     have HK := n4_
     have HO258 := n5_
     clear n0_ n1_ n2_ n3_ n4_ n5_
     clear ho hb hg hat
     obtain ⟨Ao22, co22, eo22⟩ := Kd.R_slice HO258.out
     (first | subst eo22 | (injection eo22 with f1_ f2_ f3_; have f4_ := f1_.symm; have f5_ := f3_.symm; clear f1_ f2_ f3_; subst f4_; subst f5_))
     refine hK.out _ _ ⟨bc0 BK247, bc1 BK247, bc2 BK247, bc0 BK249, bc1 BK249, bc2 BK249⟩ (fun hHeld => ?_)
     clear hK K
     refine norm_ (a' := ?_) ?_ ?_
     rotate_left
     ·show Act.put _ (some 29) _ = _
      simp only [aP]
      rfl
     refine py HT_ 12 30 (bv 15 0x1fff) ?_
     refine py HT_ 13 31 (bv 15 0x3fff) ?_
     refine last_ (i := 14) (N := none) (bv 15 0x7fff) rfl rfl (one_of HT_.out (by kernel_rfl)) (by decide) (fun K hK => ?_)
     have hs23 : w20.cell? ⟨gb247, 2, none⟩ = some (.slice (some ad248) l0_2.length co8) := bc2 BK247
     have hfs23 := blk_frozen BK247.out 2
     have hns23_1 := NB249_247.out
     have hms23_1 := NB247_249.out
     refine skip_ (w1 := ?_) (by rfl) rfl ?_ ?_
     rotate_left
     ·go_simp
      rfl
     refine hK.out _ _ ?_
     clear hK K
     refine done_ (done_of HT_.out (by kernel_rfl)) ?_
     have hcz24_0 := bz3 BK247
     try go_wp2
     go_end0
     exact ⟨(.slice Ao22 y256.length co22), er, (by (with_reducible repeat (first | refine blk_drewN ?_ _ | refine blk_drew ?_ | refine blk_alloc ?_ _)); exact blk_set BK247.out 2 _), by (with_reducible repeat (first | apply Kd.R_alloc | apply Kd.R_drewN | apply Kd.R_drew)); exact Kd.R_mono (Kd.R_far (p := ⟨gb247, 2, none⟩) (Kd.R_types HO258.out BK247.out (by decide)) (fun _ hk => hk.2) (.slice Ao22 y256.length co22)) (fun _ hk => hk.1.1), be2 HB GE247 GE249, by repeat (first | (with_reducible first | exact HK.out | apply Kept.alloc | apply Kept.drewN | apply Kept.drew | refine Kept.setCell ?_ (.inl (.inr rfl)) _ | refine Kept.setCell ?_ (.inr GW249.out) _) | exact HK.out)⟩
    rw [if_neg c7] at H
    exact absurd H (by simp)
   rw [if_neg c5] at H
   exact absurd H (by simp)
  rw [if_neg c4] at H
  exact absurd H (by simp)
 rw [if_neg c3] at H
 have c3b0 : (a0_0 == 2) = false := beq_eq_false_iff_ne.mpr c3
 have c3b1 : (a0_0 != 2) = true := bne_iff_ne.mpr c3
 by_cases c25 : a0_0 = 3
 ·rw [if_pos c25] at H
  have c25b0 : (a0_0 == 3) = true := beq_iff_eq.mpr c25
  have c25b1 : (a0_0 != 3) = false := bne_eq_false_iff_eq.mpr c25
  clear c25
  by_cases c26 : 0 ≤ a1
  ·rw [if_pos c26] at H
   have c26b0 : decide (0 ≤ a1) = true := decide_eq_true c26
   clear c26
   by_cases c27 : a1 < (l0_2.length : Int)
   ·rw [if_pos c27] at H
    have c27b0 : decide (a1 < (l0_2.length : Int)) = true := decide_eq_true c27
    clear c27
    obtain ⟨y259, hy259⟩ : ∃ y_ : List (S84), y_ = (l0_2.set (a1 : Int).toNat (⟨(rd_T84 l0_2 a1).f0, (rd_T84 l0_2 a1).f1, 1⟩ : S84)) := ⟨_, rfl⟩
    replace H : (some y259) = some r := by first | (rw [hy259]; with_reducible exact H) | (have H2_ := (Option.bind_some _ _).symm.trans H; rw [hy259]; with_reducible exact H2_) | (have H2_ := (Option.bind_some _ _).symm.trans H; with_reducible exact H2_) | with_reducible exact H | (rw [hy259]; exact H) | exact H
    have Ny259 := Aside0.mk hy259
    clear hy259
    obtain rfl := Option.some.inj H
    obtain ⟨Ao29, co29, eo29⟩ := Kd.R_slice HO0_2.out
    subst eo29
    go_enter Try.func91, Try.ntmps91
    have hcz31_0 := bz3 BK247
    have p28 : 0 ≤ (a1 : Int) := od
    have q28 : (a1 : Int) < ((l0_2.length : Int) : Int) := od
    obtain ⟨go28, co28, eo28, gb28, gl28, cl28, HG28⟩ := Kd.R_form HO0_2.out (by omega)
    (first | cases eo28 | (injection eo28 with ea_ en_ ec_; (first | subst ea_ | (injection ea_ with ea_; subst ea_)); subst ec_; clear en_))
    have GB28 := Aside0.mk gb28
    have GG28 := Aside0.mk HG28
    clear gb28 gl28 HG28
    have HMgo28 := Aside0.mk (show (P0_2_ go28 ∨ w.heap.size ≤ go28) from (HO0_2.out.1 _ rfl))
    obtain ⟨ce28, hcl28, hM28, hcc28, hfr28⟩ := Kd.R_elem HO0_2.out z84 (a1 : Int) p28 q28
    obtain rfl := k84_openM hM28
    have hx28_0 : w.cell? ⟨go28, (a1 : Int).toNat * 3, none⟩ = some (.string ((rd_T84 l0_2 a1).f0)) := hcc28 0 _ rfl
    have hx28_1 : w.cell? ⟨go28, (a1 : Int).toNat * 3 + 1, none⟩ = some (.string ((rd_T84 l0_2 a1).f1)) := hcc28 1 _ rfl
    have hx28_2 : w.cell? ⟨go28, (a1 : Int).toNat * 3 + 2, none⟩ = some (.int .i64 ((rd_T84 l0_2 a1).f2)) := hcc28 2 _ rfl
    have hf28_0 : w.frozen? ⟨go28, (a1 : Int).toNat * 3, none⟩ = false := hfr28 0
    have hf28_1 : w.frozen? ⟨go28, (a1 : Int).toNat * 3 + 1, none⟩ = false := hfr28 1
    have hf28_2 : w.frozen? ⟨go28, (a1 : Int).toNat * 3 + 2, none⟩ = false := hfr28 2
    clear hcl28 hcc28 hfr28 hM28
    replace p28 := eq_true p28
    replace q28 := eq_true q28
    have HX32 := Aside0.mk (show Kd.R k84 84 w w0.heap.size (fun k_ => (P0_2_ k_ ∨ w.heap.size ≤ k_)) (.slice (some ⟨go28, 0, none⟩) l0_2.length co29) l0_2 from (ro HO0_2))
    obtain ⟨ce32, hcl32, hM32, hcc32, hfr32⟩ := Kd.R_elem HX32.out z84 (a1 : Int) (od) (by have h_ : (a1 : Int) < ((l0_2.length : Int) : Int) := od; first | exact h_ | (have e_ := (Kd.R_reads' HO0_2.out).1; omega) | simpa using h_)
    obtain rfl := k84_openM hM32
    have HP32 := Kd.R_seg HX32.out (a1 : Int) (od) (by have h_ : (a1 : Int) < ((l0_2.length : Int) : Int) := od; first | exact h_ | (have e_ := (Kd.R_reads' HO0_2.out).1; omega) | simpa using h_) (seg := [.int .i64 1]) (j := 2) hcl32 hcc32 (show 3 ≤ 3 from by decide) (x' := (⟨(rd_T84 l0_2 a1).f0, (rd_T84 l0_2 a1).f1, 1⟩ : S84)) (k84_mkM _ _ _ (⟨(rd_T84 l0_2 a1).f0, (rd_T84 l0_2 a1).f1, 1⟩ : S84) ) (fun _ hk => hk)
    have hx32_2 := hcc32 2 _ rfl
    (try simp only [show (k84).sz = 3 from rfl, Nat.mul_one, Nat.add_zero] at hx32_2)
    have hf32_2 := hfr32 2
    (try simp only [show (k84).sz = 3 from rfl, Nat.mul_one, Nat.add_zero] at hf32_2)
    clear hcl32 hcc32 hfr32 hM32
    go_wp2_with (first | ((with_reducible refine gate_store (t := 3) (p := 40) rfl ?_); refine store_event (t := 3) (p := 40) (v := ?vo_w33) (w1 := (w.setCell ⟨go28, (a1 : Int).toNat * 3 + 2, none⟩ (.int .i64 1))) ?hg ?ho ?hn ?hr ?_; (case ho => rfl); (case hg => rfl); (case hn => rfl); (case hr => first | (go_simp; done) | (go_simp; rfl)); intro w33 hw; have hg : w.grownBy w33 (some go28) := (by rw [hw]; exact HP32.2); have hp_ : Kd.R k84 84 w33 w0.heap.size (fun k_ => (P0_2_ k_ ∨ w.heap.size ≤ k_)) (.slice (some ⟨go28, 0, none⟩) l0_2.length co29) y259 := (by rw [hw, Ny259.out]; exact HP32.1); clear HP32; replace BK247 := Aside0.mk (blk_grown (g := gb247) (o := .cells #[.int .i64 a0_0, .int .i64 a0_1, .slice (some ⟨go28, 0, none⟩) l0_2.length co29] 53 (0, 0)) (bk BK247) hg (Kd.R_ne HO0_2.out BK247.out (by decide))); replace HB := Aside0.mk ((by rw [hw]; exact below_set (HB.out) GB28.out : Below w0.heap.size w0 w33)); replace HK := Aside0.mk (Kept.of_grown (S := (fun k_ => P0_2_ k_ ∨ k_ = gb247)) hg (by repeat (first | (with_reducible first | exact HK.out | apply Kept.alloc | apply Kept.drewN | apply Kept.drew | refine Kept.setCell ?_ (.inl (.inr rfl)) _) | exact HK.out)) (fun k_ e_ => Or.imp_left Or.inl ((HO0_2.out.1 k_ e_)))); replace HO0_2 := Aside0.mk (hp_); clear hg hw hp_; have hcz34_0 := bz3 BK247))
    go_end0
    first | exact ⟨_, rfl, (bk BK247), by (with_reducible repeat (first | apply Kd.R_alloc | apply Kd.R_drewN | apply Kd.R_drew)); exact HO0_2.out, be1 HB GE247, by repeat (first | (with_reducible first | exact HK.out | apply Kept.alloc | apply Kept.drewN | apply Kept.drew | refine Kept.setCell ?_ (.inl (.inr rfl)) _) | exact HK.out)⟩ | exact ⟨rfl, _, (bk BK247), by (with_reducible repeat (first | apply Kd.R_alloc | apply Kd.R_drewN | apply Kd.R_drew)); exact HO0_2.out, be1 HB GE247, by repeat (first | (with_reducible first | exact HK.out | apply Kept.alloc | apply Kept.drewN | apply Kept.drew | refine Kept.setCell ?_ (.inl (.inr rfl)) _) | exact HK.out)⟩
   rw [if_neg c27] at H
   exact absurd H (by simp)
  rw [if_neg c26] at H
  exact absurd H (by simp)
 rw [if_neg c25] at H
 have c25b0 : (a0_0 == 3) = false := beq_eq_false_iff_ne.mpr c25
 have c25b1 : (a0_0 != 3) = true := bne_iff_ne.mpr c25
 obtain rfl := Option.some.inj H
 obtain ⟨Ao35, co35, eo35⟩ := Kd.R_slice HO0_2.out
 subst eo35
 go_enter Try.func91, Try.ntmps91
 have hcz37_0 := bz3 BK247
 go_wp2
 go_end0
 first | exact ⟨_, rfl, (bk BK247), by (with_reducible repeat (first | apply Kd.R_alloc | apply Kd.R_drewN | apply Kd.R_drew)); exact HO0_2.out, be1 HB GE247, by repeat (first | (with_reducible first | exact HK.out | apply Kept.alloc | apply Kept.drewN | apply Kept.drew | refine Kept.setCell ?_ (.inl (.inr rfl)) _) | exact HK.out)⟩ | exact ⟨rfl, _, (bk BK247), by (with_reducible repeat (first | apply Kd.R_alloc | apply Kd.R_drewN | apply Kd.R_drew)); exact HO0_2.out, be1 HB GE247, by repeat (first | (with_reducible first | exact HK.out | apply Kept.alloc | apply Kept.drewN | apply Kept.drew | refine Kept.setCell ?_ (.inl (.inr rfl)) _) | exact HK.out)⟩

end Go.Proofs.Ytllaoamaplepmaa.QFnExactRowGet
