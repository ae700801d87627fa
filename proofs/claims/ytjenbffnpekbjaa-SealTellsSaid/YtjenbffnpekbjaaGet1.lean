/- num.Get: function 28. -/
import Derived.Test.YtjenbffnpekbjaaGet0
import Derived.Shelf.RegionOpen
import Derived.IntWalk
import Derived.Test.YtjenbffnpekbjaaRound
namespace Go.Proofs.Ytjenbffnpekbjaa.F
open Go.RowKit Go.Shelf Go.Proofs.YtjenbffnpekbjaaW.PrintWords
set_option linter.unusedVariables false
attribute [local go_sem] Oper.semAt_some
theorem sized_yes (n : Int) (w : World) (h : n = 1 ∨ n = 2 ∨ n = 4 ∨ n = 8) : Calls Try.prog 49 #[.int .i64 n] w fun e w' => e = .returned (.bool true) ∧ w = w' := by
  rcases h with rfl | rfl | rfl | rfl
  all_goals
    go_enter Try.func49, Try.ntmps49
    go_wp2
    go_ret
    exact ⟨by rfl, rfl⟩
def step {size : Nat} (zs : List Int) (n : Int) (x : Fin size) : Int := Go.bits .or .u64 n (IntKind.u64.wrap (IntKind.u64.wrap (zs[x.1]?.getD 0) * 2 ^ min (8 * (size - 1 - x.1)) 64))
def val {size : Nat} (zs : List Int) (pre : List (Fin size)) : Int := pre.foldl (step zs) 0
theorem val_snoc {size : Nat} (zs : List Int) (pre : List (Fin size)) (x : Fin size) : val zs (pre ++ [x]) = step zs (val zs pre) x := by simp [val]
set_option maxRecDepth 100000 in
set_option maxHeartbeats 2000000 in
theorem get_in (n : Nat) (hn : 3 ≤ n) (b off c0 len at_ size : Nat) (zs : List Int) (w : World) (hsz : (size : Int) = 1 ∨ (size : Int) = 2 ∨ (size : Int) = 4 ∨ (size : Int) = 8) (hc0 : len ≤ c0) (hle : at_ + size ≤ len) (hl : len ≤ 140737488351232)
    (hb : b < w.heap.size) (hc : ∀ j, j < size → w.cell? ⟨b, off + at_ + j, none⟩ = some (.int .u8 (zs[j]?.getD 0))) :
    CallsIn Fence.wide n Try.prog 28 #[.slice (some ⟨b, off, none⟩) len c0, .int .i64 at_, .int .i64 size] w fun e W' => e = .returned (.tuple #[.int .u64 (val zs (List.finRange size).reverse), .int .i64 0]) ∧ Below w.heap.size w W' := by
  have h1 : 1 ≤ n := by omega
  have hsz8 : 1 ≤ size ∧ size ≤ 8 := by omega
  have hne : ¬ c0 = at_ := by omega
  have HS := Aside0.mk (sized_yes size · hsz)
  have HC := Aside0.mk hc
  clear hc hsz
  obtain ⟨hs1, hs8⟩ := hsz8
  refine callsIn_of_wp_marks Try.func28 rfl trivial ?_ rfl
  simp only [Try.ntmps28, List.size_toArray, List.length_cons, List.length_nil, Nat.reduceAdd, Nat.reduceSub, Array.replicate_succ, Array.replicate_zero, List.push_toArray, List.append_toArray, List.nil_append, List.cons_append]
  gi_wp2_with (first | (refine ⟨trivial, ?_⟩; gi_at_call 49; refine (callsIn_wide.2 (HS.out _)).mono ?_; rintro e w' ⟨rfl, rfl⟩) | (refine ⟨trivial, ?_⟩; gi_at_call 52; refine (back_in Fence.wide (n - 1) trivial rfl _ _ _ _).mono ?_; rintro e w' ⟨rfl, rfl⟩))
  have c0c := cell_new_l w (.int .i64 size) 3
  have c1c := cell_new_l (w.alloc (.cells #[.int .i64 size] 3)) (.int .u64 0) 32
  have c2c := cell_new_l ((w.alloc (.cells #[.int .i64 size] 3)).alloc (.cells #[.int .u64 0] 32)) (.slice (some ⟨b, off + at_, none⟩) size (c0 - at_)) 23
  simp only [World.size_alloc] at c1c c2c
  have hB0 : Below w.heap.size w (((w.alloc (.cells #[.int .i64 size] 3)).alloc (.cells #[.int .u64 0] 32)).alloc (.cells #[.slice (some ⟨b, off + at_, none⟩) size (c0 - at_)] 23)) := (((Below.refl _ w).alloc (Nat.le_refl _) _).alloc (by simp) _).alloc (by simp; omega) _
  refine wpIn_rangeFunc_ownF (α := Fin size) rfl h1 (gf := 62) (lb := #[.pointer (some ⟨w.heap.size + 1 + 1, 0, none⟩)]) rfl trivial (enters_of Try.func62 (by kernel_rfl) rfl)
    (back_stops Fence.wide (n - 1) trivial rfl (by omega) (w.heap.size + 1 + 1) w.heap.size b (off + at_) size (c0 - at_) zs (by omega) _ (by simp) (by simp; omega) hb c2c.1 (fun j hj => (hB0.cell (p := ⟨b, off + at_ + j, none⟩) hb).trans (HC.out j hj)))
    (fun h k => Kb.trans h k) ?kb (Below.refl _ _) (fun _ => rfl)
    (fun pre W => (W.cell? ⟨w.heap.size + 1, 0, none⟩ = some (.int .u64 (val zs pre)) ∧ W.frozen? ⟨w.heap.size + 1, 0, none⟩ = false ∧ W.cell? ⟨w.heap.size, 0, none⟩ = some (.int .i64 size)) ∧ Below w.heap.size w W)
    (fun _ _ _ => False)
    (OwnFrom.and (Own.from (fun s A B row hs hg hr => ⟨cell_kept hs.1 hg hr, (frozen_kept hs.1 hg hr).trans hs.2.1, cell_kept hs.2.2 hg hr⟩) _) (ownFrom_below (Nat.le_refl _) (by simp; omega)))
    (fun _ _ _ _ _ hs _ _ => hs)
    ⟨⟨cell_alloc_l _ c1c.1, frozen_alloc_l _ c1c.1 c1c.2, cell_alloc_l _ (cell_alloc_l _ c0c.1)⟩, hB0⟩
    ?a1 ?assign ?body ?done ?stop
  case kb =>
    intro W l o o' hl ho h1 h2
    refine ⟨belowK_b (by simp; omega) W l o o' hl ho h1 h2, ?_⟩
    have hne : l ≠ w.heap.size + 1 + 1 := by simp at hl; omega
    simp [World.cell?, World.putObj, Array.getElem?_setIfInBounds_ne hne]
  case assign =>
    intro l x W K hK
    gi_wp2
    exact hK
  case body =>
    rintro l pre x W ⟨⟨hc, hf, hs⟩, hB⟩ _
    have hmx : Try.prog.follows .mixedOrders = true := by kernel_rfl
    have hx := x.2
    obtain ⟨q, hq⟩ : ∃ q : Nat, q = 8 * (size - 1 - x.1) := ⟨_, rfl⟩
    have e1 : IntKind.i64.wrap (8 * IntKind.i64.wrap (IntKind.i64.wrap ((size : Int) - 1) - (x.1 : Int))) = (q : Int) := by
      rw [IntWalk.i64_in ((size : Int) - 1) (by omega), IntWalk.i64_in ((size : Int) - 1 - x.1) (by omega), IntWalk.i64_in _ (by omega)]
      omega
    have HQ := Aside0.mk hq
    clear hq hx
    have HB := Aside0.mk hB
    have HB0 := Aside0.mk hB0
    clear hB hB0 c0c c1c c2c HC HS hb hl hle hc0 hs1 hs8 hne
    refine wpIn_block (wpIn_region_still_tail 10 hmx (by kernel_rfl) (fun ⟨_, _, h⟩ => h) (by kernel_rfl) ?_)
    simp only [List.take_succ_cons, List.take_zero, List.drop_succ_cons, List.drop_zero]
    repeat still_step
    try refine wpStill_nil ?_
    go_wp2
    refine ⟨(KeepsOthers.setCell _ _ _).trans (KeepsOthers.drew _), ⟨((Below.refl w.heap.size W).setCell (p := ⟨w.heap.size + 1, 0, none⟩) (by simp) _).drew, ?_⟩, ⟨?_, ?_, ?_⟩, (HB.out.setCell (p := ⟨w.heap.size + 1, 0, none⟩) (by simp) _).drew⟩
    · exact (cell_drew_own _ _).trans (World.cell?_setCell_far W _ _ _ (by simp))
    · rw [cell_drew_own, val_snoc]
      unfold step
      rw [← HQ.out]
      exact World.cell?_setCell_same' _ _ _ (by rw [hc]; rfl)
    · rw [frozen_drew_own, World.frozen?_setCell]
      exact hf
    · exact ((cell_drew_own _ _).trans (World.cell?_setCell_far W _ _ _ (by simp))).trans hs
  case done =>
    rintro D ys W hD rfl ⟨⟨hc, hf, hs⟩, hB⟩ hK
    gi_wp2
    have hK' := (KeepsOthers.setCell W ⟨w.heap.size + 1, 0, none⟩ (.int .u64 (val zs (List.finRange size).reverse))).same D _ hK rfl
    refine ⟨by simp, .inl ⟨_, _, rfl, run_takeDeferred hK', ?_⟩⟩
    have hc5 := cell_kept (World.cell?_setCell_same' W ⟨w.heap.size + 1, 0, none⟩ (.int .u64 (val zs (List.finRange size).reverse)) (by rw [hc]; rfl)) (grownBy_putObj' _ D (.deferred none)) (fun r e => by cases e; exact ⟨_, hK', rfl⟩)
    refine ⟨.tuple #[.int .u64 (val zs (List.finRange size).reverse), .int .i64 0], ?_, rfl, (hB.setCell (p := ⟨w.heap.size + 1, 0, none⟩) (by simp) _).trans (belowK_b (w := w) (Nat.le_refl _) _ D _ _ (by simp at hD; omega) hK' rfl rfl)⟩
    simp [results, Try.f28, go_sem, hc5]
  case stop =>
    rintro D c pre W _ _ h _
    exact h.elim
end Go.Proofs.Ytjenbffnpekbjaa.F
