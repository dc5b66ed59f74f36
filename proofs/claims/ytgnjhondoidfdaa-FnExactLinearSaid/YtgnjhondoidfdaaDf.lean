/- slices.Delete over Facts (eight cells each), one element struck, in place. No condition. -/
import Derived.Test.YtgnjhondoidfdaaOw
import Derived.Test.YtgnjhondoidfdaaProg
import Derived.Lib.SliceRun
import Derived.Lib.SlicesDelete
import Derived.Deep.RegionLaw
import Derived.Shelf.RegionOpenPlain
import Derived.WalkKit
import Derived.Sort.WalkB12
import Derived.KernelRfl
set_option linter.unusedVariables false
namespace Go.Proofs.Ytgnjhondoidfdaa.Df
open Go.Shelf Go.RowKit Go.Lib Go.Sort Go.Proofs.YtgnjhondoidfdaaW.PrintWords
noncomputable def i38 : TypeInfo := (Try.prog.info? 38).get (by kernel_rfl)
theorem hi38 : Try.prog.info? 38 = some i38 := by kernel_rfl
theorem sz38 : i38.size = 8 := by kernel_rfl
def zl : List Value := [.int .i64 0, .int .i64 0, .int .i64 0, .int .i64 0, .int .i64 0, .int .i64 0, .int .i64 0, .int .i64 0]
theorem zl_one : ∀ u ∈ zl, u.oneCell' = true := by
  intro u hu
  have h0 : u = .int .i64 0 := by simpa [zl] using hu
  subst h0; rfl
theorem isSome_setCells (g : Nat) : ∀ (vs : List Value) (o : Nat) (w : World) (t : Nat), (w.cell? ⟨g, t, none⟩).isSome = true → ((w.setCells g o vs).cell? ⟨g, t, none⟩).isSome = true
  | [], _, _, _, h => h
  | v :: vs, o, w, t, h => by
    obtain ⟨u, hu⟩ := Option.isSome_iff_exists.1 h
    obtain ⟨u', hu'⟩ := cell?_setCell_some (p := ⟨g, o, none⟩) (x := v) hu
    exact isSome_setCells g vs (o + 1) _ t (by rw [hu']; rfl)
theorem frozen_setCells (g : Nat) : ∀ (vs : List Value) (o : Nat) (w : World) (t : Nat), w.frozen? ⟨g, t, none⟩ = false → (w.setCells g o vs).frozen? ⟨g, t, none⟩ = false
  | [], _, _, _, h => h
  | v :: vs, o, w, t, h => frozen_setCells g vs (o + 1) _ t (by rw [World.frozen?_setCell]; exact h)
theorem run_clear (w : World) (b o c : Nat) (hc : ∀ j, j < 8 → (w.cell? ⟨b, o + j, none⟩).isSome = true) (hf : ∀ j, j < 8 → w.frozen? ⟨b, o + j, none⟩ = false) (ty : TypeId) :
    (Builtin.clear_ #[28] ty #[.slice (some ⟨b, o, none⟩) 1 c]).run Try.prog w = .ok (.tuple #[]) (w.setCells b o zl) := by
  have hst := run_storeCells_cells (P := Try.prog) b o zl 0 w (by simpa [zl] using hc) (by simpa [zl] using hf) zl_one
  simp only [Nat.add_zero] at hst
  have hzc : (Builtin.zeroCells (Value.agg #[.int .i64 0, .int .i64 0, .int .i64 0, .int .i64 0, .int .i64 0, .int .i64 0, .int .i64 0, .int .i64 0]).cells 1).toList = zl := by first | rfl | kernel_rfl | (simp [Builtin.zeroCells, Value.cells, zl]; done) | (simp [Builtin.zeroCells, Value.cells, zl]; rfl)
  have hv := Try.zeroValue38
  simp [Builtin.clear_, run_underlying Try.underlying28, hv, hzc, hst]
set_option maxHeartbeats 4000000 in
set_option maxRecDepth 1000000 in
theorem del (g n cap k : Nat) (cs : List Value) (w : World) (hcs : cs.length = n * 8) (hk : k < n) (hcap : n ≤ cap) (hm : cap ≤ 9223372036854775807) (hc : ∀ j u, cs[j]? = some u → w.cell? ⟨g, j, none⟩ = some u) (hf : ∀ j, w.frozen? ⟨g, j, none⟩ = false) (h1c : ∀ u ∈ cs, u.oneCell' = true) :
    Calls Try.prog 23 #[.slice (some ⟨g, 0, none⟩) n cap, .int .i64 k, .int .i64 ((k + 1 : Nat) : Int)] w fun e w' => e = .returned (.slice (some ⟨g, 0, none⟩) (n - 1) cap) ∧ w' = (w.drew.setCells g (k * 8) (cs.drop ((k + 1) * 8))).setCells g ((n - 1) * 8) zl := by
  obtain ⟨news, hnews⟩ : ∃ news, news = cs.drop ((k + 1) * 8) := ⟨_, rfl⟩
  have hlen : news.length = (n - (k + 1)) * 8 := by rw [hnews, List.length_drop, hcs]; omega
  have hget : ∀ t u, news[t]? = some u → w.drew.cell? ⟨g, (k + 1) * 8 + t, none⟩ = some u := fun t u hu => by
    rw [hnews, List.getElem?_drop] at hu
    exact hc _ u hu
  obtain ⟨A, hA, hsrc⟩ : ∃ A : Addr, (if cap = k + 1 then some (⟨g, 0, none⟩ : Addr) else some ⟨g, (k + 1) * 8, none⟩) = some A ∧ Hid (∀ t u, news[t]? = some u → w.drew.cell? (A.add t) = some u) := by
    by_cases h : cap = k + 1
    · refine ⟨⟨g, 0, none⟩, by simp [h], fun t u hu => ?_⟩
      have h0 : news.length = 0 := by rw [hlen]; omega
      rw [List.length_eq_zero_iff.1 h0] at hu
      simp at hu
    · refine ⟨⟨g, (k + 1) * 8, none⟩, by simp [h], fun t u hu => ?_⟩
      rw [Addr.add_lit]
      exact hget t u hu
  have s1 : Hid (news.length = (n - (k + 1)) * 8) := hlen
  have s2 : Hid (∀ u ∈ news, u.oneCell' = true) := fun u hu => h1c u (by rw [hnews] at hu; exact List.mem_of_mem_drop hu)
  have hsome : ∀ t, t < n * 8 → (w.drew.cell? ⟨g, t, none⟩).isSome = true := fun t ht => by
    show (w.cell? _).isSome = true
    rw [hc t _ (List.getElem?_eq_getElem (by omega : t < cs.length))]; rfl
  have s3 : Hid (∀ t, t < news.length → (w.drew.cell? ⟨g, 0 + k * 8 + t, none⟩).isSome = true ∧ w.drew.frozen? ⟨g, 0 + k * 8 + t, none⟩ = false) := by
    intro t ht
    rw [hlen] at ht
    exact ⟨hsome _ (by omega), hf _⟩
  obtain ⟨W1, hW1⟩ : ∃ W1, W1 = w.drew.setCells g (0 + k * 8) news := ⟨_, rfl⟩
  have hs1 : ∀ t, t < n * 8 → (W1.cell? ⟨g, t, none⟩).isSome = true := fun t ht => by
    rw [hW1]; exact isSome_setCells g news _ _ t (hsome t ht)
  have hf1 : ∀ t, W1.frozen? ⟨g, t, none⟩ = false := fun t => by rw [hW1]; exact frozen_setCells g news _ _ t (hf t)
  have hcl : ∀ ty c, (Builtin.clear_ #[28] ty #[.slice (some ⟨g, (n - 1) * 8, none⟩) 1 c]).run Try.prog W1 = .ok (.tuple #[]) (W1.setCells g ((n - 1) * 8) zl) := fun ty c =>
    run_clear W1 g _ c (fun j hj => hs1 _ (by omega)) (fun j _ => hf1 _) ty
  have hW : Hid (W1 = w.drew.setCells g (0 + k * 8) news) := hW1
  have hZ : Hid (W1.setCells g ((n - 1) * 8) zl = (w.drew.setCells g (k * 8) (cs.drop ((k + 1) * 8))).setCells g ((n - 1) * 8) zl)  := by
    have e0 : W1.setCells g ((n - 1) * 8) zl = (w.drew.setCells g (k * 8) (cs.drop ((k + 1) * 8))).setCells g ((n - 1) * 8) zl := by rw [hW1, hnews, Nat.zero_add]
    exact e0
  have hic : k ≤ cap := by omega
  have hn1 : n - (n - 1) = 1 := by omega
  have hb1 : (0 : Int) ≤ (k : Int) + 1 := by omega
  have hb2 : (k : Int) + 1 ≤ (n : Int) := by omega
  have hjc : k + 1 ≤ cap := by omega
  have hnn : k + (n - (k + 1)) = n - 1 := by omega
  have mixed : Try.prog.follows .mixedOrders = true := by kernel_rfl
  clear hW1 hget hnews hlen hs1 hf1 hsome hc hf h1c hcs
  go_enter Try.func23, Try.ntmps23
  go_wp2_with fail
  go_region_law_o (refine step_append_room rfl (.tmp 22) (.tmp 25) 28 rfl 38 i38 8 Try.underlying28 hi38 sz38 g 0 k cap (by simp [Act.eval, Act.put]) A (n - (k + 1)) (cap - (k + 1)) news (by simp [Act.eval, Act.put]) s1.out hsrc.out s2.out (by omega) s3.out ?_; rw [← hW.out])
  go_wp2
  go_ret
  exact ⟨rfl, hZ.out⟩
end Go.Proofs.Ytgnjhondoidfdaa.Df
