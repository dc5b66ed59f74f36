/- slices.DeleteFunc over ints, laid at this program, at a function that asks 'x == place' (place: a variable that it has captured). No condition. -/
import Derived.Test.YtgkliacflbenfaaOw
import Derived.Test.YtgkliacflbenfaaProg
import Derived.Shelf.SlicesE.DeleteFunc
import Derived.Lib.OwnBridge
namespace Go.Proofs.Ytgkliacflbenfaa.Del
open Go.Shelf Go.RowKit Go.Lib Go.Sort
def ren : Go.Shelf.Ren := ⟨fun | 6 => 64 | 10 => 36 | n => n, fun | 22 => 23 | 23 => 3 | 25 => 73 | n => n, fun n => n⟩
theorem lays : SlLaysH.n10 Try.prog ren := {
  mixed := by kernel_rfl
  f6 := ⟨ "slices.IndexFunc[[]int,int]", by kernel_rfl, Try.func64.trans (congrArg some (by kernel_rfl))⟩
  f10 := ⟨ "slices.DeleteFunc[[]int,int]", by kernel_rfl, Try.func36.trans (congrArg some (by kernel_rfl))⟩
  t0 := Try.underlying0
  a0 := Try.isAgg0
  z0 := Try.sizeOf0
  v0 := Try.zeroValue0
  t3 := Try.underlying3
  a3 := Try.isAgg3
  z3 := Try.sizeOf3
  v3 := Try.zeroValue3
  t4 := Try.underlying4
  a4 := Try.isAgg4
  z4 := Try.sizeOf4
  v4 := Try.zeroValue4
  t22 := Try.underlying23
  a22 := Try.isAgg23
  z22 := Try.sizeOf23
  v22 := Try.zeroValue23
  a23 := Try.isAgg3
  z23 := Try.sizeOf3
  t25 := Try.underlying73
  a25 := Try.isAgg73
  z25 := Try.sizeOf73
  v25 := Try.zeroValue73 }
theorem gives (a x : Int) (B : Nat) (W : World) (hc : W.cell? ⟨B, 0, none⟩ = some (.int .i64 a)) :
    FnGives Try.prog 37 #[.pointer (some ⟨B, 0, none⟩)] #[.int .i64 x] (.bool (decide (x = a))) W := by
  show Calls Try.prog 37 #[.int .i64 x, .pointer (some ⟨B, 0, none⟩)] W _
  go_enter Try.func37, Try.ntmps37
  go_wp2
  all_goals (go_ret; exact ⟨by rw [show decide (x = a) = (x == a) from by rw [Bool.eq_iff_iff]; simp]; rfl, 0, rfl⟩)
theorem pred (a : Int) (B : Nat) (w : World) (hB : B < w.heap.size) (hc : w.cell? ⟨B, 0, none⟩ = some (.int .i64 a)) :
    PredAt Try.prog 37 #[.pointer (some ⟨B, 0, none⟩)] (Value.int .i64) (fun x => decide (x = a)) w :=
  fun W x hb => gives a x B W ((hb.cell (p := ⟨B, 0, none⟩) hB).trans hc)
theorem over (a : Int) (B blk off size : Nat) (w : World) (hB : B < w.heap.size) (hne : B ≠ blk) (hc : w.cell? ⟨B, 0, none⟩ = some (.int .i64 a)) :
    PredOver Try.prog 37 #[.pointer (some ⟨B, 0, none⟩)] (Value.int .i64) (fun x => decide (x = a)) blk off size w :=
  fun n os dk x _ => gives a x B _ (by
    unfold sortWorld
    rw [cell?_grow _ _ _ (by show B < (putRow _ _ _ _ _).heap.size; rw [size_putRow]; exact hB), cell?_putRow_other _ _ blk off _ _ (Or.inl hne)]
    exact hc)
theorem enters37 : ∀ args w, (callFunc 37 args).run Try.prog w = .ok (.enter 37 args) w := enters_of Try.func37 (by kernel_rfl) rfl
theorem calls (a : Int) (B blk off cap : Nat) (d : Array Int) (w : World) (hB : B < w.heap.size) (hne : B ≠ blk) (hc : w.cell? ⟨B, 0, none⟩ = some (.int .i64 a)) (hH : Holds (Value.int .i64) w blk off d) (hsz : d.size ≤ 9223372036854775807) (hcap : d.size ≤ cap) :
    Calls Try.prog 36 #[.slice (some ⟨blk, off, none⟩) d.size cap, .func (.func 37) #[] #[.pointer (some ⟨B, 0, none⟩)]] w fun e w' => e = .returned (.slice (some ⟨blk, off, none⟩) (d.toList.filter fun x => !decide (x = a)).length cap) ∧ ∃ q, w' = putRow (Value.int .i64) (Sort.ahead w q) blk off ((d.toList.filter fun x => !decide (x = a)) ++ List.replicate (d.size - (d.toList.filter fun x => !decide (x = a)).length) 0).toArray :=
  AnyE.slices_DeleteFunc lays (Value.int .i64) (fun _ => rfl) (fun x => decide (x = a)) 37 #[.pointer (some ⟨B, 0, none⟩)] enters37 0 Try.zeroValue3 blk off cap d w (pred a B w hB hc) (over a B blk off d.size w hB hne hc) hH hsz hcap
end Go.Proofs.Ytgkliacflbenfaa.Del
