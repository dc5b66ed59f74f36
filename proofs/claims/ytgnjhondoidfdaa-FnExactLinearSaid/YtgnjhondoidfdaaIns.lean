/- slices.Insert over ints (the shelf's), slices.DeleteFunc over ints at a function that asks 'x == f.A' (f: a Fact that it has captured), laid at this program. No condition. -/
import Derived.Test.YtgnjhondoidfdaaOw
import Derived.Test.YtgnjhondoidfdaaProg
import Derived.Shelf.Spec.SlicesInsertGrow
import Derived.Shelf.SlicesE.DeleteFunc
import Derived.Lib.OwnBridge
import Derived.Sort.OwnSortedInts
namespace Go.Proofs.Ytgnjhondoidfdaa.Ins
open Go.Shelf Go.RowKit Go.Lib Go.Sort
def ren : Go.Shelf.Ren := ⟨fun | 21 => 27 | 27 => 33 | 28 => 34 | 35 => 39 | 39 => 40 | n => n, fun | 22 => 22 | n => n, fun n => n⟩
theorem lays : Lays2.n21 Try.prog ren := {
  mixed := by kernel_rfl
  f21 := Try.func27.trans (congrArg some (by kernel_rfl))
  f27 := Try.func33.trans (congrArg some (by kernel_rfl))
  f28 := Try.func34.trans (congrArg some (by kernel_rfl))
  f35 := Try.func39.trans (congrArg some (by kernel_rfl))
  f39 := Try.func40.trans (congrArg some (by kernel_rfl))
  t0 := Try.underlying0
  a0 := Try.isAgg0
  z0 := Try.sizeOf0
  v0 := Try.zeroValue0
  t3 := Try.underlying3
  a3 := Try.isAgg3
  z3 := Try.sizeOf3
  v3 := Try.zeroValue3
  t4 := Try.underlying4
  a4 := Try.isAgg4
  z4 := Try.sizeOf4
  v4 := Try.zeroValue4
  t22 := Try.underlying22
  a22 := Try.isAgg22
  z22 := Try.sizeOf22
  v22 := Try.zeroValue22
  i3 := by kernel_rfl }
def renD : Go.Shelf.Ren := ⟨fun | 6 => 35 | 10 => 28 | n => n, fun | 22 => 22 | 23 => 3 | 25 => 51 | n => n, fun n => n⟩
theorem laysD : SlLaysH.n10 Try.prog renD := {
  mixed := by kernel_rfl
  f6 := ⟨ "slices.IndexFunc[[]int,int]", by kernel_rfl, Try.func35.trans (congrArg some (by kernel_rfl))⟩
  f10 := ⟨ "slices.DeleteFunc[[]int,int]", by kernel_rfl, Try.func28.trans (congrArg some (by kernel_rfl))⟩
  t0 := Try.underlying0
  a0 := Try.isAgg0
  z0 := Try.sizeOf0
  v0 := Try.zeroValue0
  t3 := Try.underlying3
  a3 := Try.isAgg3
  z3 := Try.sizeOf3
  v3 := Try.zeroValue3
  t4 := Try.underlying4
  a4 := Try.isAgg4
  z4 := Try.sizeOf4
  v4 := Try.zeroValue4
  t22 := Try.underlying22
  a22 := Try.isAgg22
  z22 := Try.sizeOf22
  v22 := Try.zeroValue22
  a23 := Try.isAgg3
  z23 := Try.sizeOf3
  t25 := Try.underlying51
  a25 := Try.isAgg51
  z25 := Try.sizeOf51
  v25 := Try.zeroValue51 }
theorem gives (a x : Int) (B : Nat) (W : World) (hc : W.cell? ⟨B, 2, none⟩ = some (.int .i64 a)) :
    FnGives Try.prog 29 #[.pointer (some ⟨B, 0, none⟩)] #[.int .i64 x] (.bool (decide (x = a))) W := by
  show Calls Try.prog 29 #[.int .i64 x, .pointer (some ⟨B, 0, none⟩)] W _
  have hu := Try.underlying38
  go_enter Try.func29, Try.ntmps29
  go_wp2
  all_goals (go_ret; exact ⟨by rw [show decide (x = a) = (x == a) from by rw [Bool.eq_iff_iff]; simp]; rfl, 0, rfl⟩)
theorem pred (a : Int) (B : Nat) (w : World) (hB : B < w.heap.size) (hc : w.cell? ⟨B, 2, none⟩ = some (.int .i64 a)) :
    PredAt Try.prog 29 #[.pointer (some ⟨B, 0, none⟩)] (Value.int .i64) (fun x => decide (x = a)) w :=
  fun W x hb => gives a x B W ((hb.cell (p := ⟨B, 2, none⟩) hB).trans hc)
theorem over (a : Int) (B blk off size : Nat) (w : World) (hB : B < w.heap.size) (hne : B ≠ blk) (hc : w.cell? ⟨B, 2, none⟩ = some (.int .i64 a)) :
    PredOver Try.prog 29 #[.pointer (some ⟨B, 0, none⟩)] (Value.int .i64) (fun x => decide (x = a)) blk off size w :=
  fun n os dk x _ => gives a x B _ (by
    unfold sortWorld
    rw [cell?_grow _ _ _ (by show B < (putRow _ _ _ _ _).heap.size; rw [size_putRow]; exact hB), cell?_putRow_other _ _ blk off _ _ (Or.inl hne)]
    exact hc)
theorem entersD : ∀ args w, (callFunc 29 args).run Try.prog w = .ok (.enter 29 args) w := enters_of Try.func29 (by kernel_rfl) rfl
theorem calls (a : Int) (B blk off cap : Nat) (d : Array Int) (w : World) (hB : B < w.heap.size) (hne : B ≠ blk) (hc : w.cell? ⟨B, 2, none⟩ = some (.int .i64 a)) (hH : Holds (Value.int .i64) w blk off d) (hsz : d.size ≤ 9223372036854775807) (hcap : d.size ≤ cap) :
    Calls Try.prog 28 #[.slice (some ⟨blk, off, none⟩) d.size cap, .func (.func 29) #[] #[.pointer (some ⟨B, 0, none⟩)]] w fun e w' => e = .returned (.slice (some ⟨blk, off, none⟩) (d.toList.filter fun x => !decide (x = a)).length cap) ∧ ∃ q, w' = putRow (Value.int .i64) (Sort.ahead w q) blk off ((d.toList.filter fun x => !decide (x = a)) ++ List.replicate (d.size - (d.toList.filter fun x => !decide (x = a)).length) 0).toArray :=
  AnyE.slices_DeleteFunc laysD (Value.int .i64) (fun _ => rfl) (fun x => decide (x = a)) 29 #[.pointer (some ⟨B, 0, none⟩)] entersD 0 Try.zeroValue3 blk off cap d w (pred a B w hB hc) (over a B blk off d.size w hB hne hc) hH hsz hcap
end Go.Proofs.Ytgnjhondoidfdaa.Ins
