-- made by a program of this session (myprint.py)
import Derived.Test.YtfjhkediaholmaaDel4
import Derived.Test.YtfjhkediaholmaaOw
import Derived.Test.YtfjhkediaholmaaQFnSparex0
import Derived.Test.YtfjhkediaholmaaQFnSparex1
namespace Go.Proofs.Ytfjhkediaholmaa.QFnSpare
open Go.RowKit Go.Proofs.YtfjhkediaholmaaW.PrintWords Go.Proofs.YtfjhkediaholmaaW.PrintLast Go.Proofs.YtfjhkediaholmaaW.PrintMore
attribute [local go_sem] max2_int min2_int max_two min_two max_three min_three max_four min_four   -- for this text's walks alone
set_option linter.unusedVariables false
set_option linter.unusedSimpArgs false

/-! ### impl_copyInts: function 115 -/
def impl_copyInts.f (l0 : List Int) : Option (List Int) := (some (([] : List Int) : List Int)).bind fun aa => (if aa.length + l0.length < 17592186044416 then (some (aa ++ l0)) else (none))
set_option maxHeartbeats 8000000 in
set_option maxRecDepth 100000 in
theorem impl_copyInts.calls (A0 : Option Addr) (c0 : Nat) (l0 : List Int) (r : List Int) (w : World) (ak : Kd.C (Kd.int .i64) w A0 l0.length l0) (al : l0.length ≤ c0) (h : impl_copyInts.f l0 = some r) :
  Calls Try.prog 115 #[.slice A0 l0.length c0] w fun e w' => ∃ an : Value, e = .returned (an) ∧ Kd.R (Kd.int .i64) 3 w' w.heap.size (fun _ => True) an r ∧ Below w.heap.size w w' := by
 have ao := Aside0.mk ak; have aq := Aside0.mk al; clear ak al; have HB := Aside0.mk (Below.refl w.heap.size w); have H : ((some (([] : List Int) : List Int)).bind fun aa => (if aa.length + l0.length < 17592186044416 then (some (aa ++ l0)) else (none))) = some r := h; clear h; obtain ⟨aa, ab, H⟩ := oy H; have af := Aside0.mk ab; clear ab
 by_cases c2 : aa.length + l0.length < 17592186044416
 ·rw [if_pos c2] at H; have ai := Aside0.mk c2; clear c2; obtain ⟨aj, ac⟩ : ∃ y_ : List Int, y_ = (aa ++ l0) := ⟨_, rfl⟩; rw [← ac] at H; have ag := Aside0.mk ac; clear ac; obtain rfl := Option.some.inj H
  go_enter Try.func115, Try.ntmps115
  have ad := Aside0.mk (show Kd.R (Kd.int .i64) 3 w w.heap.size (fun _ => True) (.slice none 0 0) aa from by rw [af.out]; exact Kd.R_nil _ _ _ _ _)
  go_wp2_with (first | ((with_reducible refine gate_builtin (b := .append) (xs := #[.const (.slice none 0 0), .tmp 3]) rfl ?_); at_builtin; refine Kd.R_append_rows (Kd.int .i64) (w0 := w) w.heap.size rfl (.const (.slice none 0 0)) (.tmp 3) 23 3 (.int .i64 0) 8 rfl Try.underlying23 info3 rfl (by decide) (by omega) (.slice none 0 0) aa l0 _ _ _ (fun _ => True) (fun _ => False) rfl rfl ?aO ?aR (fun _ _ h => h) (fun _ h => h.elim) ?aF ?aB ?aS ?aL ?_; (case aR => exact cb ao HB); (case aB => exact (be HB)); (case aF => exact (fun _ _ => trivial)); (case aO => exact (ro ad)); (case aS => exact (below_size (be HB))); (case aL => have := ai.out; omega); intro ap w5 ho hb hg hat; rw [← ag.out] at ho; replace HB := Aside0.mk (hb); have ah := Aside0.mk (ho); clear ad; clear ho hb hg hat))
  go_ret
  exact ⟨_, er, (ro ah), be HB⟩
 rw [if_neg c2] at H; exact absurd H (by simp)

/-! ### impl_copyThree: function 87 -/
def impl_copyThree.f (ak : Int) (al : Int) (aj : List (S68)) (ai : List (S68)) (ag : List Int) : Option (Int × Int × (List (S68)) × (List (S68)) × List Int) := (impl_copyItems.f aj).bind fun aq => ((impl_copyItems.f ai).bind fun ap => ((impl_copyInts.f ag).bind fun an => (some (ak, al, aq, ap, an))))
def impl_copyThree.T1 : Bool × List (List Nat × List Nat) := (true, [([], []), ([0], [0]), ([], []), ([2], [2]), ([], []), ([4], [4]), ([5], [5]), ([], []), ([7], [7]), ([8, 6], [8]), ([], []), ([10], [10]), ([11, 9], [11]), ([1, 3, 6, 9, 12], [1, 3, 6, 9, 12]), ([13, 12, 0, 1, 2, 3, 4, 5, 6, 7, 8, 9, 10, 11, 12, 13], [13])])
def impl_copyThree.B1 : List Nat := [0, 1, 0, 4, 0, 16, 48, 0, 128, 496, 0, 1024, 4080, 8191, 16383]
theorem impl_copyThree.tab1 : rtab .any (opsOf Try.f87 1) = impl_copyThree.T1 := by kernel_rfl
theorem impl_copyThree.bits1 : waitsOk impl_copyThree.T1.2 impl_copyThree.B1 = true := by kernel_rfl
set_option maxHeartbeats 8000000 in
set_option maxRecDepth 100000 in
theorem impl_copyThree.calls (ak : Int) (al : Int) (av : Option Addr) (aw : Nat) (aj : List (S68)) (ax : Option Addr) (ay : Nat) (ai : List (S68)) (az : Option Addr) (aA : Nat) (ag : List Int) (r1 : Int) (r2 : Int) (r3 : List (S68)) (r4 : List (S68)) (r5 : List Int) (w : World) (aF : Kd.C k68 w av aj.length aj) (aG : aj.length ≤ aw) (aH : Kd.C k68 w ax ai.length ai) (aI : ai.length ≤ ay) (aJ : Kd.C (Kd.int .i64) w az ag.length ag) (aK : ag.length ≤ aA) (h : impl_copyThree.f ak al aj ai ag = some (r1, r2, r3, r4, r5)) :
  Calls Try.prog 87 #[.agg #[.int .i64 ak, .int .i64 al, .slice av aj.length aw, .slice ax ai.length ay, .slice az ag.length aA]] w fun e w' => ∃ bj bm bw : Value, e = .returned (.agg #[.int .i64 r1, .int .i64 r2, bj, bm, bw]) ∧ Kd.R k68 68 w' w.heap.size (fun k_ => some k_ ≠ (bm : Value).ownBlock) bj r3 ∧ Kd.R k68 68 w' w.heap.size (fun k_ => some k_ ≠ (bj : Value).ownBlock) bm r4 ∧ Kd.R (Kd.int .i64) 3 w' w.heap.size (fun _ => True) bw r5 ∧ Below w.heap.size w w' := by
 have hu30 := Try.underlying30; have aR := Aside0.mk aF; have aU := Aside0.mk aG; clear aF aG; have aV := Aside0.mk aH; have aW := Aside0.mk aI; clear aH aI; have aX := Aside0.mk aJ; have aY := Aside0.mk aK; clear aJ aK; have HB := Aside0.mk (Below.refl w.heap.size w); have H : ((impl_copyItems.f aj).bind fun aq => ((impl_copyItems.f ai).bind fun ap => ((impl_copyInts.f ag).bind fun an => (some (ak, al, aq, ap, an))))) = some (r1, r2, r3, r4, r5) := h; clear h; obtain ⟨aq, A2, H⟩ := ob H; obtain ⟨ap, A3, H⟩ := ob H; obtain ⟨an, A4, H⟩ := ob H; simp only [Option.some.injEq, Prod.mk.injEq] at H; obtain ⟨rfl, rfl, rfl, rfl, rfl⟩ := H
 go_enter Try.func87, Try.ntmps87
 try go_wp2_with (first | ((with_reducible refine gate_dst (N := 1) rfl ?_); refine bx 1 #[.int .i64 ak, .int .i64 al, .slice av aj.length aw, .slice ax ai.length ay, .slice az ag.length aA] 30 ?_; intro ar hg w5 hbox hb; have ab := am hbox; have bD := gs0 hg HB; have af := gs0 hg HB; replace HB := s0 HB hb; clear hb hbox hg) | ((with_reducible refine gate_dst (N := 2) rfl ?_); refine bx 2 #[.int .i64 0, .int .i64 0, .slice none 0 0, .slice none 0 0, .slice none 0 0] 30 ?_; intro ac hg w6 hbox hb; have ad := am hbox; have bF := gs1 hg HB af; have ao := gs1 hg HB af; replace HB := s1 HB af hb; have aa := nl hg ab; have ae := ng hg ab; replace ab := bb ab hb; clear hb hbox hg))
 replace ab := eB ab; replace ad := eB ad; replace HB := eL HB; refine start_ (n := 15) (S := fun w' => w'.cell? ⟨ar, 0, none⟩ = some (.int .i64 ak) ∧ w'.cell? ⟨ar, 1, none⟩ = some (.int .i64 al) ∧ w'.cell? ⟨ar, 2, none⟩ = some (.slice av aj.length aw) ∧ w'.cell? ⟨ar, 3, none⟩ = some (.slice ax ai.length ay) ∧ w'.cell? ⟨ar, 4, none⟩ = some (.slice az ag.length aA)) (ds := []) (bv 15 0x0) (by kernel_rfl) rfl rfl (bq5 ab) (fun hHeld => ?_); refine with_tabW impl_copyThree.tab1 impl_copyThree.bits1 (fun HT_ HW_ => ?_); generalize w6.drew = w7 at ab ad HB hHeld ⊢; refine py HT_ 0 3 (bv 15 0x1) ?_; refine py HT_ 2 5 (bv 15 0x5) ?_; refine py HT_ 4 7 (bv 15 0x15) ?_; refine py HT_ 7 10 (bv 15 0x95) ?_; refine py HT_ 10 13 (bv 15 0x495) ?_; refine tk HT_ HW_ hHeld 1 4 (bv 15 0x497) ?_; refine tk HT_ HW_ hHeld 3 6 (bv 15 0x49f) ?_; refine tk HT_ HW_ hHeld 5 8 (bv 15 0x4bf) ?_; refine tk HT_ HW_ hHeld 8 11 (bv 15 0x5bf) ?_; refine tk HT_ HW_ hHeld 11 14 (bv 15 0xdbf) ?_; refine oh HT_ 6 (some 9) (bv 15 0xdff) fun K hK => ?_; refine gz Try.func68 #[.slice av aj.length aw] ?_
 with_reducible refine (impl_copyItems.calls _ _ aj aq _ ?side1 ?side2 A2.out).mono ?_
 (case side1 => exact cb aR HB)
 (case side2 => exact aU.out)
 rintro e w8 ⟨bQ, rfl, aE, hb⟩; refine ⟨_, rfl, ?_⟩; have ah := rl2 aE HB af ao; replace ab := bb ab hb; replace ad := bb ad hb; replace HB := s2 HB af ao hb; (try clear hb); (try clear bG); (try clear hk); (try clear hi); (try clear aE); refine hK.out _ _ (bq5 ab) (fun hHeld => ?_); clear hK K; refine nx ?_
 refine oh HT_ 9 (some 12) (bv 15 0xfff) fun K hK => ?_; refine gz Try.func68 #[.slice ax ai.length ay] ?_
 with_reducible refine (impl_copyItems.calls _ _ ai ap _ ?side1 ?side2 A3.out).mono ?_
 (case side1 => exact cb aV HB)
 (case side2 => exact aW.out)
 rintro e w9 ⟨bR, rfl, aE, hb⟩; refine ⟨_, rfl, ?_⟩; have au := Aside0.mk (Kd.R_lower (nw aE ah) (below_size (be2 HB af ao))); replace ah := Aside0.mk (Kd.R_elder' (ro ah) (Kd.R_base aE) hb); replace ab := bb ab hb; replace ad := bb ad hb; replace HB := s2 HB af ao hb; (try clear hb); (try clear bG); (try clear hk); (try clear hi); (try clear aE); refine hK.out _ _ (bq5 ab) (fun hHeld => ?_); clear hK K; refine nx ?_
 refine oh HT_ 12 (some 15) (bv 15 0x1fff) fun K hK => ?_; refine gz Try.func115 #[.slice az ag.length aA] ?_
 with_reducible refine (impl_copyInts.calls _ _ ag an _ ?side1 ?side2 A4.out).mono ?_
 (case side1 => exact cb aX HB)
 (case side2 => exact aY.out)
 rintro e a0 ⟨bS, rfl, aE, hb⟩; refine ⟨_, rfl, ?_⟩; replace ah := rb ah hb; replace au := rb au hb; have aN := rl2 aE HB af ao; replace ab := bb ab hb; replace ad := bb ad hb; replace HB := s2 HB af ao hb; (try clear hb); (try clear bG); (try clear hk); (try clear hi); (try clear aE); obtain ⟨bn, bo, a1⟩ := Kd.R_slice aN.out; (first | subst a1 | (injection a1 with aO a2 aQ; have a3 := aO.symm; have a4 := aQ.symm; clear aO a2 aQ; subst a3; subst a4)); obtain ⟨bq, br, a5⟩ := Kd.R_slice au.out; (first | subst a5 | (injection a5 with aO a2 aQ; have a3 := aO.symm; have a4 := aQ.symm; clear aO a2 aQ; subst a3; subst a4)); obtain ⟨bs, bu, a6⟩ := Kd.R_slice ah.out; (first | subst a6 | (injection a6 with aO a2 aQ; have a3 := aO.symm; have a4 := aQ.symm; clear aO a2 aQ; subst a3; subst a4)); refine hK.out _ _ (bq5 ab) (fun hHeld => ?_); clear hK K; refine nx ?_
 refine py HT_ 13 16 (bv 15 0x3fff) ?_; refine oh HT_ 14 none (bv 15 0x7fff) fun K hK => ?_; have bU : a0.cell? ⟨ac, 0, none⟩ = some (.int .i64 0) := bc0 ad; have bI := blk_frozen ad.out 0; have a7 := aa.out; have a8 := ae.out; have bW : a0.cell? ⟨ac, 1, none⟩ = some (.int .i64 0) := bc1 ad; have bJ := blk_frozen ad.out 1; have a9 := aa.out; have ba := ae.out; have bZ : a0.cell? ⟨ac, 2, none⟩ = some (.slice none 0 0) := bc2 ad; have bM := blk_frozen ad.out 2; have bc := aa.out; have bd := ae.out; have b0 : a0.cell? ⟨ac, 3, none⟩ = some (.slice none 0 0) := bc3 ad; have bN := blk_frozen ad.out 3; have bf := aa.out; have bg := ae.out; have b1 : a0.cell? ⟨ac, 4, none⟩ = some (.slice none 0 0) := bc4 ad; have bO := blk_frozen ad.out 4; have bh := aa.out; have bi := ae.out; refine sk ?_
 refine hK.out _ _ ⟨(cq aa hHeld.1), (cq aa hHeld.2.1), (cq aa hHeld.2.2.1), (cq aa hHeld.2.2.2.1), (cq aa hHeld.2.2.2.2)⟩ (fun hHeld => ?_); clear hK K; refine dh HT_ ?_
 try go_wp2
 refine bodyPost_ret (results_cell_row rfl _ _ ac 30 #[.int .i64 ak, .int .i64 al, .slice bs aq.length bu, .slice bq ap.length br, .slice bn an.length bo] (0, 0) _ rfl (bp ad) Try.underlying30 rfl (by kernel_rfl)) rfl ?_; exact ⟨_, _, _, er, (rfn ah ad), (rfn au ad), (rfn aN ad), be2 HB af ao⟩

/-! ### impl_Three_evictMain: function 85 -/
def impl_Three_evictMain.l0 : Nat → Int → Int → List (S68) → List (S68) → List Int → Option (ByteArray × Bool × Int × Int × (List (S68)) × (List (S68)) × List Int)
 | 0, _, _, _, _, _ => none
 | k + 1, aJ, aK, aN, ap, aQ => if (ap.length : Int) > 0 then (if 0 < (ap.length : Int) then (if 1 ≤ (ap.length : Int) then ((some (ap.drop (1 : Int).toNat : List (S68))).bind fun al => (if ((rd_T68 ap 0).f2) = 0 then (some ((rd_T68 ap 0).f0, true, aJ, aK, aN, al, aQ)) else (if al.length < 3518437208883 then (impl_Three_evictMain.l0 k aJ aK aN (al ++ [(⟨(rd_T68 ap 0).f0, (rd_T68 ap 0).f1, wrap64 (((rd_T68 ap 0).f2) - 1)⟩ : S68)]) aQ) else (none)))) else (none)) else (none)) else (some ((⟨#[]⟩ : ByteArray), false, aJ, aK, aN, ap, aQ))
def impl_Three_evictMain.f (k : Nat) (aA : Int) (aC : Int) (an : List (S68)) (aV : List (S68)) (ar : List Int) : Option (ByteArray × Bool × Int × Int × (List (S68)) × (List (S68)) × List Int) := impl_Three_evictMain.l0 k aA aC an aV ar
theorem impl_Three_evictMain.mono_l : ∀ k, (∀ y0 y1 y2 y3 y4, LeO (impl_Three_evictMain.l0 k y0 y1 y2 y3 y4) (impl_Three_evictMain.l0 (k + 1) y0 y1 y2 y3 y4))
 | 0 => fun _ _ _ _ _ r h => by simp [impl_Three_evictMain.l0] at h
 | k + 1 => by
  have b3 := impl_Three_evictMain.mono_l k
  ·intro y0 y1 y2 y3 y4; unfold impl_Three_evictMain.l0
   repeat' first | (with_reducible first | apply b3 | apply lr | apply ln | apply li | refine lb ?_ fun _ => ?_) | apply b3 | apply ln | apply li | refine lb ?_ fun _ => ?_
theorem impl_Three_evictMain.mono : ∀ a0 a1 a2 a3 a4 k, LeO (impl_Three_evictMain.f k a0 a1 a2 a3 a4) (impl_Three_evictMain.f (k + 1) a0 a1 a2 a3 a4) := by
 intro a0 a1 a2 a3 a4 k; have b3 := impl_Three_evictMain.mono_l k; unfold impl_Three_evictMain.f
 repeat' first | (with_reducible first | apply b3 | apply lr | apply ln | apply li | refine lb ?_ fun _ => ?_) | apply b3 | apply ln | apply li | refine lb ?_ fun _ => ?_
def impl_Three_evictMain.T7 : Bool × List (List Nat × List Nat) := (true, [([], []), ([], []), ([1], [1]), ([2], [2]), ([3], [3]), ([], []), ([5], [5]), ([4, 6], [4, 6]), ([0, 0, 1, 2, 3, 4, 5, 6, 7], [0]), ([8, 0, 1, 2, 3, 4, 5, 6, 7], [8]), ([9, 7, 7, 0, 1, 2, 3, 4, 5, 6, 7], [7, 9])])
def impl_Three_evictMain.B7 : List Nat := [0, 0, 2, 6, 14, 0, 32, 126, 255, 511, 1023]
theorem impl_Three_evictMain.tab7 : rtab .any (opsOf Try.f85 7) = impl_Three_evictMain.T7 := by kernel_rfl
theorem impl_Three_evictMain.bits7 : waitsOk impl_Three_evictMain.T7.2 impl_Three_evictMain.B7 = true := by kernel_rfl
set_option maxHeartbeats 8000000 in
set_option maxRecDepth 100000 in
theorem impl_Three_evictMain.calls (k : Nat) (aA : Int) (aC : Int) (ag : Nat → Prop) (aR : Value) (an : List (S68)) (ah : Nat → Prop) (aU : Value) (aV : List (S68)) (ai : Nat → Prop) (a6 : Value) (ar : List Int) (aj : Nat) (r1 : ByteArray) (r2 : Bool) (r3 : Int) (r4 : Int) (r5 : List (S68)) (r6 : List (S68)) (r7 : List Int) (w0 w : World) (hP : w.heap[aj]? = some (.cells #[.int .i64 aA, .int .i64 aC, aR, aU, a6] 30 (0, 0))) (hW : w0.heap.size ≤ aj) (hB : Below w0.heap.size w0 w) (bA : Kd.Q k68 68 w w0.heap.size ag aR an) (bn : ∀ k_, ag k_ → ¬ ah k_) (bC : Kd.Q k68 68 w w0.heap.size ah aU aV) (bo : ∀ k_, ah k_ → ¬ ag k_) (b4 : Kd.Q (Kd.int .i64) 3 w w0.heap.size ai a6 ar) (h : impl_Three_evictMain.f k aA aC an aV ar = some (r1, r2, r3, r4, r5, r6, r7)) :
  Calls Try.prog 85 #[.pointer (some ⟨aj, 0, none⟩)] w fun e w' => ∃ co cp cL : Value, e = .returned (.tuple #[.string r1, .bool r2]) ∧ w'.heap[aj]? = some (.cells #[.int .i64 r3, .int .i64 r4, co, cp, cL] 30 (0, 0)) ∧ Kd.Q k68 68 w' w0.heap.size (fun k_ => ((ag k_ ∨ ah k_ ∨ ai k_) ∨ w.heap.size ≤ k_) ∧ some k_ ≠ (cp : Value).ownBlock) co r5 ∧ Kd.Q k68 68 w' w0.heap.size (fun k_ => ((ag k_ ∨ ah k_ ∨ ai k_) ∨ w.heap.size ≤ k_) ∧ some k_ ≠ (co : Value).ownBlock) cp r6 ∧ Kd.Q (Kd.int .i64) 3 w' w0.heap.size (fun k_ => ((ag k_ ∨ ah k_ ∨ ai k_) ∨ w.heap.size ≤ k_)) cL r7 ∧ Below w0.heap.size w0 w' ∧ Kept w w' (fun k_ => (ag k_ ∨ ah k_ ∨ ai k_) ∨ k_ = aj) := by
 have hu30 := Try.underlying30; have hu68 := Try.underlying68; have bD := Aside0.mk (show Kd.Q k68 68 w w0.heap.size (fun k_ => ((ag k_ ∨ ah k_ ∨ ai k_) ∨ w.heap.size ≤ k_) ∧ some k_ ≠ (aU : Value).ownBlock) aR an from Kd.Q_mono bA (fun k_ hk => ⟨(.inl (.inl hk)), fun e_ => bn k_ hk (bC.1 k_ e_.symm)⟩)); have bF := Aside0.mk (show Kd.Q k68 68 w w0.heap.size (fun k_ => ((ag k_ ∨ ah k_ ∨ ai k_) ∨ w.heap.size ≤ k_) ∧ some k_ ≠ (aR : Value).ownBlock) aU aV from Kd.Q_mono bC (fun k_ hk => ⟨(.inl (.inr (.inl hk))), fun e_ => bo k_ hk (bA.1 k_ e_.symm)⟩)); have bG := Aside0.mk (show Kd.Q (Kd.int .i64) 3 w w0.heap.size (fun k_ => ((ag k_ ∨ ah k_ ∨ ai k_) ∨ w.heap.size ≤ k_)) a6 ar from Kd.Q_mono b4 (fun k_ hk => (.inl (.inr (.inr hk))))); have HK := Aside0.mk (Kept.refl w (fun k_ => (ag k_ ∨ ah k_ ∨ ai k_) ∨ k_ = aj)); have dx := Aside0.mk hB.size; have HB := Aside0.mk hB; clear hB; have ac := Aside0.mk hP; have av := Aside0.mk hW; clear hP hW; have H : (impl_Three_evictMain.l0 k aA aC an aV ar) = some (r1, r2, r3, r4, r5, r6, r7) := h; clear h; have H' := Aside0.mk H; clear H; obtain ⟨aY, aZ, cW, _⟩ := Kd.Q_slice bD.out; subst cW; obtain ⟨cX, cY, cZ, _⟩ := Kd.Q_slice bF.out; subst cZ; obtain ⟨bs, bu, c0, _⟩ := Kd.Q_slice bG.out; subst c0
 go_enter Try.func85, Try.ntmps85
 go_wp2
 go_loopg [] k (fun kq w' => ∃ (aa : List (S68)) (aG : Value), Aside0 (impl_Three_evictMain.l0 kq aA aC an aa ar = some (r1, r2, r3, r4, r5, r6, r7)) ∧ Aside0 (kq ≤ k) ∧ Aside0 (Kd.Q k68 68 w' w0.heap.size (fun k_ => ((ag k_ ∨ ah k_ ∨ ai k_) ∨ w.heap.size ≤ k_) ∧ some k_ ≠ (aG : Value).ownBlock) (.slice aY an.length aZ) an) ∧ Aside0 (Kd.Q k68 68 w' w0.heap.size (fun k_ => ((ag k_ ∨ ah k_ ∨ ai k_) ∨ w.heap.size ≤ k_) ∧ nb k_ aY an.length aZ) aG aa) ∧ Aside0 (Kd.Q (Kd.int .i64) 3 w' w0.heap.size (fun k_ => ((ag k_ ∨ ah k_ ∨ ai k_) ∨ w.heap.size ≤ k_)) (.slice bs ar.length bu) ar) ∧ Aside0 (w'.heap[aj]? = some (.cells #[.int .i64 aA, .int .i64 aC, (.slice aY an.length aZ), aG, (.slice bs ar.length bu)] 30 (0, 0))) ∧ Aside0 (Kept w w' (fun k_ => (ag k_ ∨ ah k_ ∨ ai k_) ∨ k_ = aj)) ∧ Aside0 (Below w0.heap.size w0 w'))
 case atStart => exact ⟨(aV), (.slice cX aV.length cY), H', ⟨Nat.le_refl _⟩, ⟨(qo bD)⟩, ⟨(qo bF)⟩, ⟨(qo bG)⟩, ⟨bk ac⟩, ⟨(kr HK)⟩, ⟨be1 HB av⟩⟩
 case round =>
  clear H'
  try clear p2
  obtain ⟨aa, aG, HA, cM, ab, af, ad, ac, HK, HB⟩ := hrel
  cases gk with
  | zero => exact absurd HA.out (by simp [impl_Three_evictMain.l0])
  | succ k1 =>
   have H := HA.out; clear HA; simp only [impl_Three_evictMain.l0] at H
   by_cases c6 : (aa.length : Int) > 0
   ·rw [if_pos c6] at H; have cs : decide (0 < (aa.length : Int)) = true := decide_eq_true c6; have ct : decide (0 < aa.length) = true := decide_eq_true (by omega); clear c6
    by_cases c7 : 0 < (aa.length : Int)
    ·rw [if_pos c7] at H; have da : decide (0 < (aa.length : Int)) = true := decide_eq_true c7; have db : decide (0 < aa.length) = true := decide_eq_true (by omega); clear c7
     by_cases c8 : 1 ≤ (aa.length : Int)
     ·rw [if_pos c8] at H; have dc := eq_true c8; have dd : decide (1 ≤ (aa.length : Int)) = true := decide_eq_true c8; clear c8; obtain ⟨al, aW, H⟩ := oy H; have bm := Aside0.mk aW; clear aW
      by_cases c9 : ((rd_T68 aa 0).f2) = 0
      ·rw [if_pos c9] at H; have cu : (((rd_T68 aa 0).f2) == 0) = true := beq_iff_eq.mpr c9; have cw : (((rd_T68 aa 0).f2) != 0) = false := bne_eq_false_iff_eq.mpr c9; clear c9; simp only [Option.some.injEq, Prod.mk.injEq] at H; obtain ⟨rfl, rfl, rfl, rfl, rfl, rfl, rfl⟩ := H; have b9 := bz5 ac; obtain ⟨de, a7, cx, _⟩ := Kd.Q_slice af.out; subst cx; have a8 : 0 ≤ (0 : Int) := (by omega); have a9 : 0 < (aa.length : Int) := od; obtain ⟨aq, bR, ax, ay, az⟩ := at_T68 (Kd.Q_reads' af.out).2.2 0 a8 a9; cases bR; have b5 : (0 < aa.length) = True := eq_true (by omega); (try rw [show ((0 : Int)).toNat = 0 from rfl] at ax); (try rw [show 0 * 3 = 0 from rfl] at ax); (try rw [Addr.add_zero'] at ax); (try rw [show ((0 : Int)).toNat = 0 from rfl] at ay); (try rw [show 0 * 3 = 0 from rfl] at ay); (try rw [Addr.add_zero'] at ay); (try rw [show ((0 : Int)).toNat = 0 from rfl] at az); (try rw [show 0 * 3 = 0 from rfl] at az); (try rw [Addr.add_zero'] at az); replace a8 := eq_true a8; replace a9 := eq_true a9
       go_wp2_with (first | ((with_reducible refine gate_dst (N := 4) rfl ?_); refine bx 4 #[.string (⟨#[]⟩ : ByteArray), .string (⟨#[]⟩ : ByteArray), .int .i64 0] 68 ?_; intro ae hg df hbox hb; replace ab := Aside0.mk (Kd.Q_below (Kd.Q_elderB (qo ab) ae (Nat.le_of_eq hg.symm)) hb); replace af := Aside0.mk (Kd.Q_below (Kd.Q_elderB (qo af) ae (Nat.le_of_eq hg.symm)) hb); replace ad := Aside0.mk (Kd.Q_below (qo ad) hb); have ak := am hbox; have aD := kgr hg HK; replace HK := Aside0.mk (Kept.below (w := w) (S := (fun k_ => (ag k_ ∨ ah k_ ∨ ai k_) ∨ k_ = aj)) (kr HK) hb); have aE := gs1 hg HB av; replace HB := s1 HB av hb; have ao := nl hg ac; have aw := ng hg ac; replace ac := bb ac hb; clear hb hbox hg; have cN := aw.out; have cO := ao.out; have ca := bz3 ak) | ((with_reducible refine gate_store (t := 68) (p := 4) rfl ?_); refine store_event (t := 68) (p := 4) (v := ?vo_w15) (w1 := (((df.setCell ⟨ae, 0, none⟩ (.string ((rd_T68 aa 0).f0))).setCell ⟨ae, 1, none⟩ (.string ((rd_T68 aa 0).f1))).setCell ⟨ae, 2, none⟩ (.int .i64 ((rd_T68 aa 0).f2)))) ?hg ?ho ?hn ?hr ?_; (case ho => rfl); (case hg => rfl); (case hn => rfl); (case hr => first | (go_simp; done) | (go_simp; rfl)); intro bH hw; replace ab : Aside0 (Kd.Q k68 68 bH w0.heap.size (fun k_ => ((ag k_ ∨ ah k_ ∨ ai k_) ∨ w.heap.size ≤ k_) ∧ some k_ ≠ (.slice (some aq) aa.length a7 : Value).ownBlock ∧ k_ ≠ ae) (.slice aY an.length aZ) an) := ⟨(by rw [hw]; exact (qg ae ab))⟩; replace af : Aside0 (Kd.Q k68 68 bH w0.heap.size (fun k_ => ((ag k_ ∨ ah k_ ∨ ai k_) ∨ w.heap.size ≤ k_) ∧ nb k_ aY an.length aZ ∧ k_ ≠ ae) (.slice (some aq) aa.length a7) aa) := ⟨(by rw [hw]; exact (qg ae af))⟩; replace ad : Aside0 (Kd.Q (Kd.int .i64) 3 bH w0.heap.size (fun k_ => ((ag k_ ∨ ah k_ ∨ ai k_) ∨ w.heap.size ≤ k_)) (.slice bs ar.length bu) ar) := ⟨(by rw [hw]; exact (qf ad ak))⟩; replace ac : Aside0 (bH.heap[aj]? = some (.cells #[.int .i64 aA, .int .i64 aC, .slice aY an.length aZ, .slice (some aq) aa.length a7, .slice bs ar.length bu] 30 (0, 0))) := ⟨(by rw [hw]; exact (bf1 ac ao))⟩; replace ak : Aside0 (bH.heap[ae]? = some (.cells #[.string ((rd_T68 aa 0).f0), .string ((rd_T68 aa 0).f1), .int .i64 ((rd_T68 aa 0).f2)] 68 (0, 0))) := ⟨(by rw [hw]; exact (bp ak))⟩; replace HK : Aside0 (Kept w bH (fun k_ => (ag k_ ∨ ah k_ ∨ ai k_) ∨ k_ = aj)) := ⟨(by rw [hw]; exact (kr1 HK aD))⟩; replace HB : Aside0 (Below w0.heap.size w0 bH) := ⟨(by rw [hw]; exact (be2 HB av aE))⟩; clear hw; have cc := bz5 ac; have cy : (1 : Int) ≤ ((aa.length : Int) : Int) := od; obtain ⟨dg, bI, _, bJ, _⟩ := info_parts info68; have bS := cut_from (P := Try.prog) 28 68 .i64 Try.underlying28 bI 3 bJ (some aq) aa.length a7 1 (by omega) cy; have bq := Kd.Q_drop (k := (1 : Int).toNat) af.out (by omega); obtain ⟨cz, bw⟩ : ∃ A1, A1 = (if a7 = (1 : Int).toNat then (some aq) else ((some aq) : Option Addr).map (·.add ((1 : Int).toNat * 3))) := ⟨_, rfl⟩; obtain ⟨cA, bU⟩ : ∃ c1, c1 = a7 - (1 : Int).toNat := ⟨_, rfl⟩; have bW : al.length = aa.length - (1 : Int).toNat := (by rw [bm.out, List.length_drop]); rw [← bm.out] at bq; rw [← bW, ← bw, ← bU] at bS; replace bq : Kd.Q k68 68 bH w0.heap.size (fun k_ => ((ag k_ ∨ ah k_ ∨ ai k_) ∨ w.heap.size ≤ k_) ∧ nb k_ aY an.length aZ ∧ k_ ≠ ae) (.slice cz al.length cA) al := (by rw [bw, bU, bW]; exact bq); have cC : Aside0 ((Value.slice cz al.length cA).ownBlock = (.slice (some aq) aa.length a7 : Value).ownBlock) := ⟨by rw [bw]; split <;> (cases ((some aq) : Option Addr) <;> rfl)⟩; clear bW bI bJ af bw bU; have au := Aside0.mk bq; clear bq; replace cy := eq_true cy; replace ab := Aside0.mk (Kd.Q_mono (ok' := fun k_ => ((((ag k_ ∨ ah k_ ∨ ai k_) ∨ w.heap.size ≤ k_)) ∧ (nb k_ cz al.length cA ∧ k_ ≠ ae))) ab.out (fun k_ hk => ⟨hk.1, ⟨(fun e_ => hk.2.1 (e_.trans cC.out)), hk.2.2⟩⟩)); have cd := bz3 ak))
       go_ret2
       exact ⟨_, _, _, er, (bp ac), (qfn ab ac), (qfn au ac), (qf ad ac), be2 HB av aE, (kr1 HK aD)⟩
      rw [if_neg c9] at H; have cu : (((rd_T68 aa 0).f2) == 0) = false := beq_eq_false_iff_ne.mpr c9; have cw : (((rd_T68 aa 0).f2) != 0) = true := bne_iff_ne.mpr c9
      by_cases ce : al.length < 3518437208883
      ·rw [if_pos ce] at H; have b6 := Aside0.mk ce; clear ce; obtain ⟨bZ, aX⟩ : ∃ y_ : List (S68), y_ = (al ++ [(⟨(rd_T68 aa 0).f0, (rd_T68 aa 0).f1, wrap64 (((rd_T68 aa 0).f2) - 1)⟩ : S68)]) := ⟨_, rfl⟩; rw [← aX] at H; have b7 := Aside0.mk aX; clear aX; have H' := Aside0.mk H; clear H; have cf := bz5 ac; obtain ⟨di, bj, cD, _⟩ := Kd.Q_slice af.out; subst cD; have a8 : 0 ≤ (0 : Int) := (by omega); have a9 : 0 < (aa.length : Int) := od; obtain ⟨aq, bR, ax, ay, az⟩ := at_T68 (Kd.Q_reads' af.out).2.2 0 a8 a9; cases bR; have b5 : (0 < aa.length) = True := eq_true (by omega); (try rw [show ((0 : Int)).toNat = 0 from rfl] at ax); (try rw [show 0 * 3 = 0 from rfl] at ax); (try rw [Addr.add_zero'] at ax); (try rw [show ((0 : Int)).toNat = 0 from rfl] at ay); (try rw [show 0 * 3 = 0 from rfl] at ay); (try rw [Addr.add_zero'] at ay); (try rw [show ((0 : Int)).toNat = 0 from rfl] at az); (try rw [show 0 * 3 = 0 from rfl] at az); (try rw [Addr.add_zero'] at az); replace a8 := eq_true a8; replace a9 := eq_true a9
       try go_wp2_with (first | ((with_reducible refine gate_dst (N := 4) rfl ?_); refine bx 4 #[.string (⟨#[]⟩ : ByteArray), .string (⟨#[]⟩ : ByteArray), .int .i64 0] 68 ?_; intro ae hg dj hbox hb; replace ab := Aside0.mk (Kd.Q_below (Kd.Q_elderB (qo ab) ae (Nat.le_of_eq hg.symm)) hb); replace af := Aside0.mk (Kd.Q_below (Kd.Q_elderB (qo af) ae (Nat.le_of_eq hg.symm)) hb); replace ad := Aside0.mk (Kd.Q_below (qo ad) hb); have ak := am hbox; have aD := kgr hg HK; replace HK := Aside0.mk (Kept.below (w := w) (S := (fun k_ => (ag k_ ∨ ah k_ ∨ ai k_) ∨ k_ = aj)) (kr HK) hb); have aE := gs1 hg HB av; replace HB := s1 HB av hb; have ao := nl hg ac; have aw := ng hg ac; replace ac := bb ac hb; clear hb hbox hg; have cP := aw.out; have cQ := ao.out; have cg := bz3 ak) | ((with_reducible refine gate_store (t := 68) (p := 4) rfl ?_); refine store_event (t := 68) (p := 4) (v := ?vo_w25) (w1 := (((dj.setCell ⟨ae, 0, none⟩ (.string ((rd_T68 aa 0).f0))).setCell ⟨ae, 1, none⟩ (.string ((rd_T68 aa 0).f1))).setCell ⟨ae, 2, none⟩ (.int .i64 ((rd_T68 aa 0).f2)))) ?hg ?ho ?hn ?hr ?_; (case ho => rfl); (case hg => rfl); (case hn => rfl); (case hr => first | (go_simp; done) | (go_simp; rfl)); intro a5 hw; replace ab : Aside0 (Kd.Q k68 68 a5 w0.heap.size (fun k_ => ((ag k_ ∨ ah k_ ∨ ai k_) ∨ w.heap.size ≤ k_) ∧ some k_ ≠ (.slice (some aq) aa.length bj : Value).ownBlock ∧ k_ ≠ ae) (.slice aY an.length aZ) an) := ⟨(by rw [hw]; exact (qg ae ab))⟩; replace af : Aside0 (Kd.Q k68 68 a5 w0.heap.size (fun k_ => ((ag k_ ∨ ah k_ ∨ ai k_) ∨ w.heap.size ≤ k_) ∧ nb k_ aY an.length aZ ∧ k_ ≠ ae) (.slice (some aq) aa.length bj) aa) := ⟨(by rw [hw]; exact (qg ae af))⟩; replace ad : Aside0 (Kd.Q (Kd.int .i64) 3 a5 w0.heap.size (fun k_ => ((ag k_ ∨ ah k_ ∨ ai k_) ∨ w.heap.size ≤ k_)) (.slice bs ar.length bu) ar) := ⟨(by rw [hw]; exact (qf ad ak))⟩; replace ac : Aside0 (a5.heap[aj]? = some (.cells #[.int .i64 aA, .int .i64 aC, .slice aY an.length aZ, .slice (some aq) aa.length bj, .slice bs ar.length bu] 30 (0, 0))) := ⟨(by rw [hw]; exact (bf1 ac ao))⟩; replace ak : Aside0 (a5.heap[ae]? = some (.cells #[.string ((rd_T68 aa 0).f0), .string ((rd_T68 aa 0).f1), .int .i64 ((rd_T68 aa 0).f2)] 68 (0, 0))) := ⟨(by rw [hw]; exact (bp ak))⟩; replace HK : Aside0 (Kept w a5 (fun k_ => (ag k_ ∨ ah k_ ∨ ai k_) ∨ k_ = aj)) := ⟨(by rw [hw]; exact (kr1 HK aD))⟩; replace HB : Aside0 (Below w0.heap.size w0 a5) := ⟨(by rw [hw]; exact (be2 HB av aE))⟩; clear hw; have ci := bz5 ac; have cE : (1 : Int) ≤ ((aa.length : Int) : Int) := od; obtain ⟨dl, bM, _, bN, _⟩ := info_parts info68; have b0 := cut_from (P := Try.prog) 28 68 .i64 Try.underlying28 bM 3 bN (some aq) aa.length bj 1 (by omega) cE; have br := Kd.Q_drop (k := (1 : Int).toNat) af.out (by omega); obtain ⟨aH, bz⟩ : ∃ A1, A1 = (if bj = (1 : Int).toNat then (some aq) else ((some aq) : Option Addr).map (·.add ((1 : Int).toNat * 3))) := ⟨_, rfl⟩; obtain ⟨aI, b1⟩ : ∃ c1, c1 = bj - (1 : Int).toNat := ⟨_, rfl⟩; have b2 : al.length = aa.length - (1 : Int).toNat := (by rw [bm.out, List.length_drop]); rw [← bm.out] at br; rw [← b2, ← bz, ← b1] at b0; replace br : Kd.Q k68 68 a5 w0.heap.size (fun k_ => ((ag k_ ∨ ah k_ ∨ ai k_) ∨ w.heap.size ≤ k_) ∧ nb k_ aY an.length aZ ∧ k_ ≠ ae) (.slice aH al.length aI) al := (by rw [bz, b1, b2]; exact br); have cF : Aside0 ((Value.slice aH al.length aI).ownBlock = (.slice (some aq) aa.length bj : Value).ownBlock) := ⟨by rw [bz]; split <;> (cases ((some aq) : Option Addr) <;> rfl)⟩; clear b2 bM bN af bz b1; have au := Aside0.mk br; clear br; replace cE := eq_true cE; replace ab := Aside0.mk (Kd.Q_mono (ok' := fun k_ => ((((ag k_ ∨ ah k_ ∨ ai k_) ∨ w.heap.size ≤ k_)) ∧ (nb k_ aH al.length aI ∧ k_ ≠ ae))) ab.out (fun k_ hk => ⟨hk.1, ⟨(fun e_ => hk.2.1 (e_.trans cF.out)), hk.2.2⟩⟩)); have ck := bz3 ak))
       have ba : Aside0 (Kd.Q k68 68 ((a5.setCell ⟨aj, 3, none⟩ (.slice aH al.length aI)).setCell ⟨ae, 2, none⟩ (.int .i64 (wrap64 (((rd_T68 aa 0).f2) - 1)))) w0.heap.size (fun k_ => ((ag k_ ∨ ah k_ ∨ ai k_) ∨ w.heap.size ≤ k_) ∧ nb k_ aH al.length aI ∧ k_ ≠ ae) (.slice aY an.length aZ) an) := ⟨(qt_ ae ab ac)⟩; have bc : Aside0 (Kd.Q k68 68 ((a5.setCell ⟨aj, 3, none⟩ (.slice aH al.length aI)).setCell ⟨ae, 2, none⟩ (.int .i64 (wrap64 (((rd_T68 aa 0).f2) - 1)))) w0.heap.size (fun k_ => ((ag k_ ∨ ah k_ ∨ ai k_) ∨ w.heap.size ≤ k_) ∧ nb k_ aY an.length aZ ∧ k_ ≠ ae) (.slice aH al.length aI) al) := ⟨(qt_ ae au ac)⟩; have bd : Aside0 (Kd.Q (Kd.int .i64) 3 ((a5.setCell ⟨aj, 3, none⟩ (.slice aH al.length aI)).setCell ⟨ae, 2, none⟩ (.int .i64 (wrap64 (((rd_T68 aa 0).f2) - 1)))) w0.heap.size (fun k_ => ((ag k_ ∨ ah k_ ∨ ai k_) ∨ w.heap.size ≤ k_)) (.slice bs ar.length bu) ar) := ⟨(qf2 ad ak ac)⟩; have bf : Aside0 (((a5.setCell ⟨aj, 3, none⟩ (.slice aH al.length aI)).setCell ⟨ae, 2, none⟩ (.int .i64 (wrap64 (((rd_T68 aa 0).f2) - 1)))).heap[aj]? = some (.cells #[.int .i64 aA, .int .i64 aC, .slice aY an.length aZ, .slice aH al.length aI, .slice bs ar.length bu] 30 (0, 0))) := ⟨(bp1 ac ao)⟩; have bg : Aside0 (((a5.setCell ⟨aj, 3, none⟩ (.slice aH al.length aI)).setCell ⟨ae, 2, none⟩ (.int .i64 (wrap64 (((rd_T68 aa 0).f2) - 1)))).heap[ae]? = some (.cells #[.string ((rd_T68 aa 0).f0), .string ((rd_T68 aa 0).f1), .int .i64 (wrap64 (((rd_T68 aa 0).f2) - 1))] 68 (0, 0))) := ⟨(bp1 ak aw)⟩; have bh : Aside0 (Kept w ((a5.setCell ⟨aj, 3, none⟩ (.slice aH al.length aI)).setCell ⟨ae, 2, none⟩ (.int .i64 (wrap64 (((rd_T68 aa 0).f2) - 1)))) (fun k_ => (ag k_ ∨ ah k_ ∨ ai k_) ∨ k_ = aj)) := ⟨(kr1 HK aD)⟩; have bi : Aside0 (Below w0.heap.size w0 ((a5.setCell ⟨aj, 3, none⟩ (.slice aH al.length aI)).setCell ⟨ae, 2, none⟩ (.int .i64 (wrap64 (((rd_T68 aa 0).f2) - 1))))) := ⟨be2 HB av aE⟩
       (try clear ab); (try clear au); (try clear ad); (try clear ac); (try clear ak); (try clear HK); (try clear HB); generalize ((a5.setCell ⟨aj, 3, none⟩ (.slice aH al.length aI)).setCell ⟨ae, 2, none⟩ (.int .i64 (wrap64 (((rd_T68 aa 0).f2) - 1)))) = dm at ba bc bd bf bg bh bi ⊢; have ab := ba; have au := bc; have ad := bd; have ac := bf; have ak := bg; have HK := bh; have HB := bi; clear ba bc bd bf bg bh bi; replace ab := eQ ab; replace au := eQ au; replace ad := eQ ad; replace ac := eB ac; replace ak := eB ak; replace HK := eK HK; replace HB := eL HB; refine start_ (n := 11) (S := fun w' => w'.cell? ⟨aj, 0, none⟩ = some (.int .i64 aA) ∧ w'.cell? ⟨aj, 1, none⟩ = some (.int .i64 aC) ∧ w'.cell? ⟨aj, 2, none⟩ = some (.slice aY an.length aZ) ∧ w'.cell? ⟨aj, 3, none⟩ = some (.slice aH al.length aI) ∧ w'.cell? ⟨aj, 4, none⟩ = some (.slice bs ar.length bu) ∧ w'.cell? ⟨ae, 0, none⟩ = some (.string ((rd_T68 aa 0).f0)) ∧ w'.cell? ⟨ae, 1, none⟩ = some (.string ((rd_T68 aa 0).f1)) ∧ w'.cell? ⟨ae, 2, none⟩ = some (.int .i64 (wrap64 (((rd_T68 aa 0).f2) - 1)))) (ds := [10]) (bv 11 0x0) (by kernel_rfl) rfl rfl (bs5 ac (bq3 ak)) (fun hHeld => ?_); refine with_tabW impl_Three_evictMain.tab7 impl_Three_evictMain.bits7 (fun HT_ HW_ => ?_); generalize dm.drew = dy at ab au ad ac ak HK HB hHeld ⊢; refine py HT_ 0 34 (bv 11 0x1) ?_; refine py HT_ 1 35 (bv 11 0x3) ?_; refine py HT_ 2 36 (bv 11 0x7) ?_; refine py HT_ 3 37 (bv 11 0xf) ?_; refine tk HT_ HW_ hHeld 4 38 (bv 11 0x1f) ?_; refine tk HT_ HW_ hHeld 5 39 (bv 11 0x3f) ?_; refine oh HT_ 6 (some 40) (bv 11 0x7f) fun K hK => ?_; refine value_ (w1 := ?_) (v := ?_) (by rfl) rfl ?_ ?_
       rotate_left 2
       ·go_simp
        constructor
        ·rfl
        ·rfl
       refine hK.out _ _ ⟨(blk_cell (blk_alloc ac.out _) 0).trans rfl, (blk_cell (blk_alloc ac.out _) 1).trans rfl, (blk_cell (blk_alloc ac.out _) 2).trans rfl, (blk_cell (blk_alloc ac.out _) 3).trans rfl, (blk_cell (blk_alloc ac.out _) 4).trans rfl, (blk_cell (blk_alloc ak.out _) 0).trans rfl, (blk_cell (blk_alloc ak.out _) 1).trans rfl, (blk_cell (blk_alloc ak.out _) 2).trans rfl⟩ (fun hHeld => ?_); clear hK K; refine nx ?_
       refine oh HT_ 7 (some 41) (bv 11 0xff) fun K hK => ?_; refine Kd.Q_append_step k68 (w0 := w0) w0.heap.size (by rfl) (.tmp 38) (.tmp 40) 28 68 (.agg #[(.string ⟨#[]⟩), (.string ⟨#[]⟩), (.int .i64 0)]) 40 rfl Try.underlying28 info68 rfl (by decide) (by omega) (.slice aH al.length aI) al (⟨(rd_T68 aa 0).f0, (rd_T68 aa 0).f1, wrap64 (((rd_T68 aa 0).f2) - 1)⟩ : S68) [.string ((rd_T68 aa 0).f0), .string ((rd_T68 aa 0).f1), .int .i64 (wrap64 (((rd_T68 aa 0).f2) - 1))] (fun k_ => ((ag k_ ∨ ah k_ ∨ ai k_) ∨ w.heap.size ≤ k_) ∧ nb k_ aY an.length aZ ∧ k_ ≠ ae) (fun _ => False) rfl rfl ?aP (fun _ hk => hk.elim) ?aF ?aO ?aB ?aS ?aL ?_
       (case aP => exact k68_mkM _ _ _ (⟨(rd_T68 aa 0).f0, (rd_T68 aa 0).f1, wrap64 (((rd_T68 aa 0).f2) - 1)⟩ : S68))
       (case aB => exact (be2 HB av aE))
       (case aF => exact (fun k_ hk => ⟨(.inr (Nat.le_trans (by first | exact HK.out.1 | exact (show Kept w _ (fun k_ => (ag k_ ∨ ah k_ ∨ ai k_) ∨ k_ = aj) from (kr1 HK aD)).1) hk)), Kd.fresh' (Kd.Q_lt (qo ab)) k_ hk, Kd.freshB (g := ae) (o := .cells #[.string ((rd_T68 aa 0).f0), .string ((rd_T68 aa 0).f1), .int .i64 (wrap64 (((rd_T68 aa 0).f2) - 1))] 68 (0, 0)) (bk ak) k_ hk⟩))
       (case aO => exact (qo au))
       (case aS => exact (below_size (be2 HB av aE)))
       (case aL => have := b6.out; omega)
       intro dn dp ho hb hg hat; rw [← b7.out] at ho; replace ab := Aside0.mk (Kd.Q_after (ok := (fun k_ => ((ag k_ ∨ ah k_ ∨ ai k_) ∨ w.heap.size ≤ k_) ∧ k_ ≠ ae)) (by (with_reducible repeat (first | apply Kd.Q_alloc | apply Kd.Q_drewN | apply Kd.Q_drew)); exact Kd.Q_mono ab.out (fun _ hk => ⟨⟨hk.1, hk.2.2⟩, hk.2.1⟩)) hg hat); replace ad := Aside0.mk (Kd.Q_over' (qo ad) (Kd.Q_typed (qo au)) (by decide) hg); replace ac := bgr ac hg (Kd.Q_ne au.out ac.out (by decide)); replace ak := bgr ak hg (Kd.Q_away au.out (fun _ hk => hk.2.2)); replace HB := Aside0.mk (hb); replace HK := Aside0.mk (Kept.of_grown (S := (fun k_ => (ag k_ ∨ ah k_ ∨ ai k_) ∨ k_ = aj)) hg (kr1 HK aD) (fun k_ e_ => Or.imp_left Or.inl ((au.out.1 k_ e_).1))); have bO := Aside0.mk (ho); clear au; clear ho hb hg hat; obtain ⟨cG, cI, b8, _⟩ := Kd.Q_slice bO.out; (first | subst b8 | (injection b8 with cS dq cT; have dr := cS.symm; have dt := cT.symm; clear cS dq cT; subst dr; subst dt)); refine hK.out _ _ (bs5 ac (bq3 ak)) (fun hHeld => ?_); clear hK K; refine nx ?_
       refine py HT_ 8 42 (bv 11 0x1ff) ?_; refine py HT_ 9 43 (bv 11 0x3ff) ?_; refine lh HT_ 10 none (bv 11 0x7ff) fun K hK => ?_; have du : dp.cell? ⟨aj, 3, none⟩ = some (.slice aH al.length aI) := bc3 ac; have cU := blk_frozen ac.out 3; have cl := aw.out; have cm := ao.out; refine sk ?_
       refine hK.out _ _ ?_; clear hK K; refine dh HT_ ?_
       try go_wp2
       go_roundg k1
       case measure => have := cM.out; omega
       case rel => exact ⟨(bZ), (.slice cG bZ.length cI), H', ⟨by have := cM.out; omega⟩, ⟨(qfn ab ac)⟩, ⟨(qfn bO ac)⟩, ⟨(qf ad ac)⟩, ⟨(bp ac)⟩, ⟨(kr1 HK aD)⟩, ⟨be2 HB av aE⟩⟩
      rw [if_neg ce] at H; exact absurd H (by simp)
     rw [if_neg c8] at H; exact absurd H (by simp)
    rw [if_neg c7] at H; exact absurd H (by simp)
   rw [if_neg c6] at H; have cs : decide (0 < (aa.length : Int)) = false := decide_eq_false c6; have ct : decide (0 < aa.length) = false := decide_eq_false (by omega); clear c6; simp only [Option.some.injEq, Prod.mk.injEq] at H; obtain ⟨rfl, rfl, rfl, rfl, rfl, rfl, rfl⟩ := H; have cn := bz5 ac; obtain ⟨dv, dw, cK, _⟩ := Kd.Q_slice af.out; subst cK
   go_wp2
   go_ret2
   exact ⟨_, _, _, er, (bk ac), (qo ab), (qo af), (qo ad), be1 HB av, (kr HK)⟩

/-! ### impl_Hash: function 51 -/
def impl_Hash.l0 : Nat → ByteArray → Int → Int → Option (Int)
 | 0, _, _, _ => none
 | k + 1, x0, x3, x4 => if x4 < (x0.size : Int) then (if 0 ≤ x4 then (impl_Hash.l0 k x0 (Int.tmod (wrap64 ((Go.bits .xor .i64 x3 (wrap64 (bt x0 x4))) * 16777619)) 4294967296) (wrap64 (x4 + 1))) else (none)) else (some x3)
def impl_Hash.f (k : Nat) (a0 : ByteArray) : Option (Int) := impl_Hash.l0 k a0 2166136261 0
theorem impl_Hash.mono_l : ∀ k, (∀ y0 y1 y2, LeO (impl_Hash.l0 k y0 y1 y2) (impl_Hash.l0 (k + 1) y0 y1 y2))
 | 0 => fun _ _ _ r h => by simp [impl_Hash.l0] at h
 | k + 1 => by
  have ac := impl_Hash.mono_l k
  ·intro y0 y1 y2; unfold impl_Hash.l0
   repeat' first | (with_reducible first | apply ac | apply lr | apply ln | apply li | refine lb ?_ fun _ => ?_) | apply ac | apply ln | apply li | refine lb ?_ fun _ => ?_
theorem impl_Hash.mono : ∀ a0 k, LeO (impl_Hash.f k a0) (impl_Hash.f (k + 1) a0) := by
 intro a0 k; have ac := impl_Hash.mono_l k; unfold impl_Hash.f
 repeat' first | (with_reducible first | apply ac | apply lr | apply ln | apply li | refine lb ?_ fun _ => ?_) | apply ac | apply ln | apply li | refine lb ?_ fun _ => ?_
set_option maxHeartbeats 8000000 in
set_option maxRecDepth 100000 in
theorem impl_Hash.calls (k : Nat) (a0 : ByteArray) (r : Int) (w : World) (h : impl_Hash.f k a0 = some r) :
  Calls Try.prog 51 #[.string a0] w fun e w' => e = .returned (.int .i64 r) ∧ Drawn0 w w' := by
 have H : (impl_Hash.l0 k a0 2166136261 0) = some r := h; clear h; have H' := Aside0.mk H; clear H
 go_enter Try.func51, Try.ntmps51
 go_wp2
 go_loopg [3, 4] k (fun kq v3 v4 w' => ∃ (ab : Int) (aa : Int), v3 = .int .i64 ab ∧ v4 = .int .i64 aa ∧ Aside0 (impl_Hash.l0 kq a0 ab aa = some r) ∧ Aside0 (kq ≤ k) ∧ Drawn0 w w')
 case atStart => exact ⟨(2166136261), (0), rs, rs, H', ⟨Nat.le_refl _⟩, by repeat (first | exact Drawn0.refl _ | apply Drawn0.step)⟩
 case round =>
  clear H'; obtain ⟨ab, aa, rfl, rfl, HA, ae, ⟨m1, rfl⟩⟩ := hrel
  cases gk with
  | zero => exact absurd HA.out (by simp [impl_Hash.l0])
  | succ k1 =>
   have H := HA.out; clear HA; simp only [impl_Hash.l0] at H
   by_cases c2 : aa < (a0.size : Int)
   ·rw [if_pos c2] at H; have ad : decide (aa < (a0.size : Int)) = true := decide_eq_true c2; clear c2
    by_cases c3 : 0 ≤ aa
    ·rw [if_pos c3] at H; have af : decide (0 ≤ aa) = true := decide_eq_true c3; clear c3; have H' := Aside0.mk H; clear H; have p4 : 0 ≤ (aa : Int) := od; have q4 : aa < (a0.size : Int) := od; have ag := bt_at a0 aa; replace p4 := eq_true p4; replace q4 := eq_true q4
     go_wp2
     go_roundg k1
     case measure => have := ae.out; omega
     case rel => exact ⟨(Int.tmod (wrap64 ((Go.bits .xor .i64 ab (wrap64 (bt a0 aa))) * 16777619)) 4294967296), (wrap64 (aa + 1)), rs, rs, H', ⟨by have := ae.out; omega⟩, by repeat (first | exact Drawn0.refl _ | apply Drawn0.step)⟩
    rw [if_neg c3] at H; exact absurd H (by simp)
   rw [if_neg c2] at H; have ad : decide (aa < (a0.size : Int)) = false := decide_eq_false c2; clear c2; obtain rfl := Option.some.inj H
   go_wp2
   go_ret
   exact ⟨by first | rfl | (simp; done) | (simp [*]; done), by repeat (first | exact Drawn0.refl _ | apply Drawn0.step)⟩

/-! ### slices_DeleteFunc_int_int: function 98 -/
def slices_DeleteFunc_int_int.f (l0 : List Int) (a1 : Int) : Option (List Int) := if 0 < l0.length then some (l0.filter fun x => !decide (x = a1)) else some l0
theorem idx_noneI (A : Option Addr) (c B : Nat) (w : World) : Calls Try.prog 120 #[.slice A 0 c, .func (.func 118) #[] #[.pointer (some ⟨B, 0, none⟩)]] w fun e w' => e = .returned (.int .i64 (-1)) ∧ Below w.heap.size w w' := by
 have HB := Aside0.mk (Below.refl w.heap.size w)
 go_enter Try.func120, Try.ntmps120
 go_wp2
 go_loopg [5, 8] 0 (fun gg _ v8 wr => v8 = .int .i64 0 ∧ Aside0 (Below w.heap.size w wr))
 case atStart => exact ⟨rfl, HB⟩
 case round =>
  obtain ⟨rfl, HB⟩ := hrel
  go_wp2
  go_ret
  exact ⟨rfl, HB.out⟩
theorem del_noneI (A : Option Addr) (n c B : Nat) (w : World) (hn : n = 0) : Calls Try.prog 98 #[.slice A n c, .func (.func 118) #[] #[.pointer (some ⟨B, 0, none⟩)]] w fun e w' => e = .returned (.slice A n c) ∧ Below w.heap.size w w' := by
 subst hn; have hI := idx_noneI A c B w
 go_enter Try.func98, Try.ntmps98
 go_wp2_with (go_at_call 120; refine hI.mono ?_; rintro e w1 ⟨rfl, hb⟩; have HB := Aside0.mk hb; clear hb)
 go_ret
 exact ⟨rfl, HB.out⟩
set_option maxHeartbeats 8000000 in
set_option maxRecDepth 100000 in
theorem slices_DeleteFunc_int_int.calls (ab : Nat → Prop) (aa : Value) (l0 : List Int) (a1 : Int) (gP : Nat) (r : List Int) (w0 w : World) (hP : w.heap[gP]? = some (.cells #[.int .i64 a1] 3 (0, 0))) (hN : ∀ k, aa.ownBlock = some k → k ≠ gP) (hB : Below w0.heap.size w0 w) (ac : Kd.R (Kd.int .i64) 3 w w0.heap.size ab aa l0) (h : slices_DeleteFunc_int_int.f l0 a1 = some r) :
  Calls Try.prog 98 #[aa, .func (.func 118) #[] #[.pointer (some ⟨gP, 0, none⟩)]] w fun e w' => ∃ ad : Value, e = .returned (ad) ∧ Kd.R (Kd.int .i64) 3 w' w0.heap.size (fun k_ => (ab k_ ∨ w.heap.size ≤ k_)) ad r ∧ Below w0.heap.size w0 w' ∧ Kept w w' (fun k_ => ab k_) := by
 have h' : (if 0 < l0.length then some (l0.filter fun x => !decide (x = a1)) else some l0) = some r := h; clear h
 by_cases hn : 0 < l0.length
 case neg =>
  rw [if_neg hn] at h'; obtain rfl := Option.some.inj h'; obtain ⟨A, c, rfl⟩ := Kd.R_slice ac; refine (del_noneI A l0.length c gP w (by omega)).mono ?_; rintro e w' ⟨rfl, hb⟩; exact ⟨_, rfl, Kd.R_mono (Kd.R_below ac hb) (fun _ hk => .inl hk), below_step hB hb, Kept.below (S := fun k_ => ab k_) (Kept.refl w _) hb⟩
 rw [if_pos hn] at h'; obtain rfl := Option.some.inj h'; clear h'; obtain ⟨g, cap, cur, rfl, hg, hh, af, ae, hs, ht, hok⟩ := Ow.opened ac hn; have hm : cap ≤ 9223372036854775807 := ae; have hH := Go.holds_of_blockI hh ht; refine (Del4.calls a1 gP g 0 cap l0.toArray w (blk_lt hP) (fun e => hN g rfl e.symm) ((blk_cell hP 0).trans rfl) hH (by simp; omega) (by simpa using af)).mono ?_; rintro e w' ⟨rfl, q, rfl⟩; have hF := List.length_filter_le (fun x => !decide (x = a1)) l0; simp only [List.size_toArray, List.toList_toArray]; generalize (l0.filter fun x => !decide (x = a1)) = F at hF ⊢; have hy : (F ++ List.replicate (l0.length - F.length) (0 : Int)).length = l0.length := by simp; omega
 rw [Go.Lib.putRow_eq_setCells (Value.int .i64) w g 0 l0.toArray _ q hH (by rw [hy]; simp)]; obtain ⟨cur', h1, h2, h3⟩ := Ow.heap_setCells g 3 ((F ++ List.replicate (l0.length - F.length) (0 : Int)).map (Value.int .i64)) 0 (w.drewN q) cur hh (by rw [List.length_map, hy]; omega); refine ⟨_, rfl, ?_, Ow.below_setCells hg _ _ _ (pw_below_drewN hB q), Ow.kept_setCells (W := w.drewN q) hok _ _ _ (Kept.refl w _)⟩; refine Ow.made (.inl hok) hg h1 (by omega) ae (by omega) ?_; rw [h3, List.take_zero, List.nil_append, List.map_append, List.append_assoc, List.take_append_of_le_length (by simp), List.take_of_length_le (by simp)]


