/- slices.DeleteFunc over ints at Put's function (which asks 'x == a captured number'), over a row that may begin inside its block. No condition. -/
import Derived.Test.YtfjhkediaholmaaDel4
import Derived.Test.YtfjhkediaholmaaWQPut
namespace Go.Proofs.Ytfjhkediaholmaa.Del5
open Go.Shelf Go.RowKit Go.Lib Go.Sort Go.Proofs.YtfjhkediaholmaaW.PrintWords
theorem gives (a x : Int) (B : Nat) (W : World) (hc : W.cell? ⟨B, 0, none⟩ = some (.int .i64 a)) :
    FnGives Try.prog 99 #[.pointer (some ⟨B, 0, none⟩)] #[.int .i64 x] (.bool (decide (x = a))) W := by
  show Calls Try.prog 99 #[.int .i64 x, .pointer (some ⟨B, 0, none⟩)] W _
  go_enter Try.func99, Try.ntmps99
  go_wp2
  all_goals (go_ret; exact ⟨by rw [show decide (x = a) = (x == a) from by rw [Bool.eq_iff_iff]; simp]; rfl, 0, rfl⟩)
theorem pred (a : Int) (B : Nat) (w : World) (hB : B < w.heap.size) (hc : w.cell? ⟨B, 0, none⟩ = some (.int .i64 a)) :
    PredAt Try.prog 99 #[.pointer (some ⟨B, 0, none⟩)] (Value.int .i64) (fun x => decide (x = a)) w :=
  fun W x hb => gives a x B W ((hb.cell (p := ⟨B, 0, none⟩) hB).trans hc)
theorem over (a : Int) (B blk off size : Nat) (w : World) (hB : B < w.heap.size) (hne : B ≠ blk) (hc : w.cell? ⟨B, 0, none⟩ = some (.int .i64 a)) :
    PredOver Try.prog 99 #[.pointer (some ⟨B, 0, none⟩)] (Value.int .i64) (fun x => decide (x = a)) blk off size w :=
  fun n os dk x _ => gives a x B _ (by
    unfold sortWorld
    rw [cell?_grow _ _ _ (by show B < (putRow _ _ _ _ _).heap.size; rw [size_putRow]; exact hB), cell?_putRow_other _ _ blk off _ _ (Or.inl hne)]
    exact hc)
theorem enters99 : ∀ args w, (callFunc 99 args).run Try.prog w = .ok (.enter 99 args) w := enters_of Try.func99 (by kernel_rfl) rfl
theorem calls (a : Int) (B blk off cap : Nat) (d : Array Int) (w : World) (hB : B < w.heap.size) (hne : B ≠ blk) (hc : w.cell? ⟨B, 0, none⟩ = some (.int .i64 a)) (hH : Holds (Value.int .i64) w blk off d) (hsz : d.size ≤ 9223372036854775807) (hcap : d.size ≤ cap) :
    Calls Try.prog 98 #[.slice (some ⟨blk, off, none⟩) d.size cap, .func (.func 99) #[] #[.pointer (some ⟨B, 0, none⟩)]] w fun e w' => e = .returned (.slice (some ⟨blk, off, none⟩) (d.toList.filter fun x => !decide (x = a)).length cap) ∧ ∃ q, w' = putRow (Value.int .i64) (Sort.ahead w q) blk off ((d.toList.filter fun x => !decide (x = a)) ++ List.replicate (d.size - (d.toList.filter fun x => !decide (x = a)).length) 0).toArray :=
  AnyE.slices_DeleteFunc Del4.lays (Value.int .i64) (fun _ => rfl) (fun x => decide (x = a)) 99 #[.pointer (some ⟨B, 0, none⟩)] enters99 0 Try.zeroValue3 blk off cap d w (pred a B w hB hc) (over a B blk off d.size w hB hne hc) hH hsz hcap
theorem opened {w : World} {base e : Nat} {ok : Nat → Prop} {v : Value} {xs : List Int} (h : Kd.Q (Kd.int .i64) e w base ok v xs) (hn : 0 < xs.length) :
    ∃ g off cap cur, v = .slice (some ⟨g, off, none⟩) xs.length cap ∧ base ≤ g ∧ w.heap[g]? = some (.cells cur e (0, 0)) ∧ xs.length ≤ cap ∧ off + cap ≤ maxLen ∧ cur.size = off + cap ∧ ok g ∧ Holds (Value.int .i64) w g off xs.toArray := by
  have hQ := h
  obtain ⟨h0, inner, ⟨hl, ho⟩, hr⟩ := h
  rcases ho with ⟨h2, _⟩ | ⟨g, off, cap, cur, rfl, hg, hh, hc1, hc2, hs, ht⟩
  · omega
  · rw [show off * (Kd.int .i64).sz = off from Nat.mul_one off] at hQ ht ⊢
    refine ⟨g, off, cap, cur, rfl, hg, hh, hc1, hc2, by rw [hs]; exact Nat.mul_one _, h0 g (by simp [Value.ownBlock]), fun j hj => ?_⟩
    have hj' : j < xs.length := by simpa using hj
    have := Kd.Q_cell 0 hQ (j : Int) (by omega) (by omega)
    rw [Int.toNat_natCast] at this
    refine ⟨this.1.trans ?_, this.2⟩
    unfold rdOf
    rw [Int.toNat_natCast]
    simp [hj']
theorem made {w : World} {base e : Nat} {ok : Nat → Prop} {xs : List Int} {g off cap : Nat} {cur : Array Value} (hok : ok g) (hb : base ≤ g) (hh : w.heap[g]? = some (.cells cur e (0, 0))) (hc1 : xs.length ≤ cap) (hc2 : off + cap ≤ maxLen) (hs : cur.size = off + cap) (ht : (cur.toList.drop off).take xs.length = xs.map (Value.int .i64)) :
    Kd.Q (Kd.int .i64) e w base ok (.slice (some ⟨g, off, none⟩) xs.length cap) xs := by
  refine ⟨fun k hk => ?_, xs.map (Value.int .i64), ⟨by rw [List.length_map]; exact (Nat.mul_one _).symm, .inr ⟨g, off, cap, cur, by rw [show off * (Kd.int .i64).sz = off from Nat.mul_one off], hb, hh, hc1, hc2, ?_, ?_⟩⟩, Ow.reps_of xs⟩
  · have : g = k := by simpa [Value.ownBlock] using hk
    exact this ▸ hok
  · rw [hs]; exact (Nat.mul_one _).symm
  · rw [← ht, show off * (Kd.int .i64).sz = off from Nat.mul_one off]; exact congrArg (fun q => (cur.toList.drop off).take q) (Nat.mul_one _)
end Go.Proofs.Ytfjhkediaholmaa.Del5
