/- The statements' own 'lives' of layer 5 returns true. -/
import Derived.Test.YtjenbffnpekbjaaPureSeal
namespace Go.Proofs.Ytjenbffnpekbjaa.F
open Go.RowKit Go.Proofs.YtjenbffnpekbjaaW.PrintWords Go.Proofs.YtjenbffnpekbjaaW.PrintLast Go.Proofs.YtjenbffnpekbjaaW.PrintMore
set_option linter.unusedVariables false
/-- A world, with blocks that lie in it. -/
structure St (w W : World) (bl : List (Nat × List Int)) : Prop where
  below : Below w.heap.size w W
  has : ∀ p, p ∈ bl → HasB W p.1 p.2
theorem HasB.lt {w : World} {g : Nat} {l : List Int} (h : HasB w g l) : g < w.heap.size := by
  rcases Nat.lt_or_ge g w.heap.size with h1 | h1
  · exact h1
  · have h2 : w.heap[g]? = some (.cells (cellsOf l) 47 (0, 0)) := h
    rw [Array.getElem?_eq_none h1] at h2
    cases h2
variable {w W W' : World} {bl : List (Nat × List Int)}
theorem St.call (h : St w W bl) (hb : Below W.heap.size W W') : St w W' bl := ⟨below_step h.below hb, fun p hp => (h.has p hp).below hb⟩
theorem St.alloc (h : St w W bl) (o : Obj) : St w (W.alloc o) bl := ⟨below_alloc h.below o, fun p hp => (h.has p hp).alloc o⟩
theorem St.drew (h : St w W bl) (n : Nat) : St w (W.drewN n) bl := ⟨pw_below_drewN h.below n, fun p hp => (h.has p hp).drewN n⟩
theorem St.stored (h : St w W bl) {o : Obj} {l : List Int} (hs : HasB W' W.heap.size l) (ht : Turn W.heap.size (W.alloc o) W') : St w W' ((W.heap.size, l) :: bl) := by
  refine ⟨ht.below (below_alloc h.below o) h.below.size, fun p hp => ?_⟩
  rcases List.mem_cons.1 hp with rfl | hp
  · exact hs
  · exact ((h.has p hp).alloc o).turn ht (Nat.ne_of_lt (h.has p hp).lt)
theorem mix_tag (a b : List Int) (bits : Int) (ha : a.length = 64) (hb : b.length = 64) (p : Nat) (hp : p < 4) : tagL (mixL a b bits 4) p = if bitOn bits p = true then tagL b p else tagL a p := by
  rw [tag_quarter, mix_quarter4 a b bits ha hb p hp]
  split
  · exact (tag_quarter b p).symm
  · exact (tag_quarter a p).symm
@[irreducible] def f5 : List Int := (putB 5 []).1
@[irreducible] def f6 : List Int := (putB 6 []).1
@[irreducible] def fx : List Int := (putB 258 [7]).1
@[irreducible] def fm : List Int := mixL f5 f6 2 4
@[irreducible] def f31 : List Int := mixL f5 f6 31 4
theorem u32_lit (n : Int) (h : 0 ≤ n ∧ n < 4294967296) : U32 n := h
theorem bytes_nil : Bytes [] := fun c hc => by cases hc
theorem f5_length : f5.length = 64 := by unfold f5; exact putB_length 5 []
theorem f6_length : f6.length = 64 := by unfold f6; exact putB_length 6 []
theorem fx_length : fx.length = 64 := by unfold fx; exact putB_length 258 [7]
theorem f5_bytes : Bytes f5 := by unfold f5; exact putB_bytes 5 [] bytes_nil
theorem f6_bytes : Bytes f6 := by unfold f6; exact putB_bytes 6 [] bytes_nil
theorem f5_good : (putB 5 []).2 = 0 ∧ ∀ q, q < 4 → tagL (putB 5 []).1 q = 5 := by
  have h := putB_good 5 [] (u32_lit 5 (by decide)) (by decide) (by decide)
  exact ⟨h.1, h.2.1⟩
theorem f6_good : (putB 6 []).2 = 0 ∧ ∀ q, q < 4 → tagL (putB 6 []).1 q = 6 := by
  have h := putB_good 6 [] (u32_lit 6 (by decide)) (by decide) (by decide)
  exact ⟨h.1, h.2.1⟩
theorem fx_good : (putB 258 [7]).2 = 0 ∧ ∀ q, q < 4 → tagL (putB 258 [7]).1 q = 258 := by
  have h := putB_good 258 [7] (u32_lit 258 (by decide)) (by decide) (by decide)
  exact ⟨h.1, h.2.1⟩
theorem fm_length : fm.length = 64 := by unfold fm; exact mixL_length _ _ _ f5_length f6_length 4 (Nat.le_refl _)
theorem f31_length : f31.length = 64 := by unfold f31; exact mixL_length _ _ _ f5_length f6_length 4 (Nat.le_refl _)
theorem fm_bytes : Bytes fm := by unfold fm; exact mix_bytes _ _ _ f5_bytes f6_bytes 4
theorem f31_bytes : Bytes f31 := by unfold f31; exact mix_bytes _ _ _ f5_bytes f6_bytes 4
theorem fm_tag (q : Nat) (hq : q < 4) : tagL fm q = if bitOn 2 q = true then 6 else 5 := by
  rw [fm, mix_tag _ _ _ f5_length f6_length q hq, f5, f6, f5_good.2 q hq, f6_good.2 q hq]
theorem f31_tag (q : Nat) (hq : q < 4) : tagL f31 q = if bitOn 31 q = true then 6 else 5 := by
  rw [f31, mix_tag _ _ _ f5_length f6_length q hq, f5, f6, f5_good.2 q hq, f6_good.2 q hq]
theorem fm_great : greatL fm 4 = 6 := by
  simp only [greatL]
  rw [fm_tag 0 (by decide), fm_tag 1 (by decide), fm_tag 2 (by decide), fm_tag 3 (by decide)]
  decide
theorem f31_great : greatL f31 4 = 6 := by
  simp only [greatL]
  rw [f31_tag 0 (by decide), f31_tag 1 (by decide), f31_tag 2 (by decide), f31_tag 3 (by decide)]
  decide
theorem fm_not_whole : ¬ Whole fm := by
  intro h
  have := h.2 1 (by decide)
  rw [fm_tag 0 (by decide), fm_tag 1 (by decide)] at this
  revert this
  decide
theorem fx_take : fx.take 6 = [0, 0, 1, 2, 7, 0] := by decide +kernel
theorem fx_18 : fx[18]? = some 1 := by decide +kernel
theorem lc5_none (w : World) : Calls Try.prog 38 #[.int .u32 0, .slice none 0 0] w fun e w' => e = .returned (.tuple #[.agg (cellsOf zeros), .int .i64 2]) ∧ Below w.heap.size w w' :=
  put_calls 0 none 0 0 [] w (u32_lit 0 (by decide)) rfl (by decide) (Kd.C_nil _ _) (by decide)
def z45 : List Int := List.replicate 45 0
theorem z45_length : z45.length = 45 := by simp [z45]
theorem lc5_long (w : World) : Calls Try.prog 38 #[.int .u32 0, .slice (some ⟨w.heap.size, 0, none⟩) 45 45] (w.alloc (.cells (cellsOf z45) 5)) fun e w' => e = .returned (.tuple #[.agg (cellsOf zeros), .int .i64 3]) ∧ Below (w.alloc (.cells (cellsOf z45) 5)).heap.size (w.alloc (.cells (cellsOf z45) 5)) w' :=
  put_calls 0 _ 45 45 z45 _ (u32_lit 0 (by decide)) z45_length (by decide) (by have := C_new w z45 5 (0, 0) w.heap.size rfl (by rw [z45_length]; decide); rwa [z45_length] at this) (by decide)
theorem lc5_x (w : World) : Calls Try.prog 38 #[.int .u32 258, .slice (some ⟨w.heap.size, 0, none⟩) 1 1] (w.alloc (.cells #[.int .u8 7] 5)) fun e w' => e = .returned (.tuple #[.agg (cellsOf fx), .int .i64 0]) ∧ Below (w.alloc (.cells #[.int .u8 7] 5)).heap.size (w.alloc (.cells #[.int .u8 7] 5)) w' := by
  have := put_calls 258 _ 1 1 [7] _ (u32_lit 258 (by decide)) (by simp) (by decide) (C_new w [7] 5 (0, 0) w.heap.size rfl (by decide)) (by decide)
  rw [fx_good.1] at this
  unfold fx
  exact this
theorem lc5_5 (w : World) : Calls Try.prog 38 #[.int .u32 5, .slice none 0 0] w fun e w' => e = .returned (.tuple #[.agg (cellsOf f5), .int .i64 0]) ∧ Below w.heap.size w w' := by
  have := put_calls 5 none 0 0 [] w (u32_lit 5 (by decide)) rfl (by decide) (Kd.C_nil _ _) (by decide)
  rw [f5_good.1] at this
  unfold f5
  exact this
theorem lc5_6 (w : World) : Calls Try.prog 38 #[.int .u32 6, .slice none 0 0] w fun e w' => e = .returned (.tuple #[.agg (cellsOf f6), .int .i64 0]) ∧ Below w.heap.size w w' := by
  have := put_calls 6 none 0 0 [] w (u32_lit 6 (by decide)) rfl (by decide) (Kd.C_nil _ _) (by decide)
  rw [f6_good.1] at this
  unfold f6
  exact this
theorem lc5_mix (w : World) : Calls Try.prog 45 #[.agg (cellsOf f5), .agg (cellsOf f6), .int .u8 2] w fun e w' => e = .returned (.agg (cellsOf fm)) ∧ Below w.heap.size w w' := by
  have := mix_calls f5 f6 2 f5_length f6_length w
  unfold fm
  exact this
theorem lc5_mix31 (w : World) : Calls Try.prog 45 #[.agg (cellsOf f5), .agg (cellsOf f6), .int .u8 31] w fun e w' => e = .returned (.agg (cellsOf f31)) ∧ Below w.heap.size w w' := by
  have := mix_calls f5 f6 31 f5_length f6_length w
  unfold f31
  exact this
theorem lc5_great (w : World) : Calls Try.prog 43 #[.agg (cellsOf fm)] w fun e w' => e = .returned (.int .u32 6) ∧ Below w.heap.size w w' := by
  have := greatest_calls fm fm_length fm_bytes w
  rw [fm_great] at this
  exact this
theorem lc5_great31 (w : World) : Calls Try.prog 43 #[.agg (cellsOf f31)] w fun e w' => e = .returned (.int .u32 6) ∧ Below w.heap.size w w' := by
  have := greatest_calls f31 f31_length f31_bytes w
  rw [f31_great] at this
  exact this
theorem got_bad (l : List Int) (hl : l.length = 64) (h8 : Bytes l) (hw : ¬ Whole l) (w : World) : Calls Try.prog 40 #[.agg (cellsOf l)] w fun e w' => e = .returned (.tuple #[.int .u32 0, .slice none 0 0, .int .i64 5]) ∧ Below w.heap.size w w' := by
  refine (getx_calls l hl h8 w).mono ?_
  rintro e w' ⟨h, hb⟩
  refine ⟨?_, hb⟩
  rcases h with ⟨_, h⟩ | ⟨h, _⟩ | ⟨h, _⟩
  · exact h
  · exact absurd h hw
  · exact absurd h hw
theorem make45 (w : World) : (Instr.makeSlice 23 (.int .i64 45) (.int .i64 45)).run Try.prog w = .ok (.slice (some ⟨w.heap.size, 0, none⟩) 45 45) (w.alloc (.cells (cellsOf z45) 5)) := by
  obtain ⟨i, hi, hz⟩ := Option.map_eq_some_iff.1 info5
  simp only [Prod.mk.injEq] at hz
  have h := run_make (P := Try.prog) w 23 5 i (.int .u8 0) Try.underlying23 hi hz.1 .i64 .i64 45 45 (by decide) (by decide) (by rw [hz.2.2]; decide) (by decide)
  rw [h, hz.2.1]
  have e : madeCells (Value.int .u8 0).cells (Int.toNat 45 * 1) = cellsOf z45 := by kernel_rfl
  rw [e]
  rfl
theorem slice47_h (g hi : Nat) (h1 : hi ≤ 64) (w : World) : (Instr.sliceAt 47 (.pointer (some ⟨g, 0, none⟩)) none (some (.int .i64 hi)) none).run Try.prog w = .ok (.slice (some ⟨g, 0, none⟩) hi 64) w := by
  rw [run_sliceAt_array_h w 47 ⟨g, 0, none⟩ und47 .i64 hi (by omega) (by rw [len47]; omega), size47]
  simp only [Result.andThen, slicedAt, Int.toNat_natCast, len47]
  rw [if_neg (by omega), add_plain]
  rfl
theorem lc5_same (w : World) (g : Nat) (h : HasB w g fx) : Calls Try.prog 32 #[.slice (some ⟨g, 0, none⟩) 6 64, .slice (some ⟨w.heap.size, 0, none⟩) 6 6] (w.alloc (.cells #[.int .u8 0, .int .u8 0, .int .u8 1, .int .u8 2, .int .u8 7, .int .u8 0] 5)) fun e w' => e = .returned (.bool true) ∧ Drawn0 (w.alloc (.cells #[.int .u8 0, .int .u8 0, .int .u8 1, .int .u8 2, .int .u8 7, .int .u8 0] 5)) w' := by
  refine same_refl_calls (some ⟨g, 0, none⟩) 64 (some ⟨w.heap.size, 0, none⟩) 6 6 [0, 0, 1, 2, 7, 0] _ rfl ?_ (by decide) (C_new w [0, 0, 1, 2, 7, 0] 5 (0, 0) w.heap.size rfl (by decide)) (Nat.le_refl _)
  have hc := h.C 0 6 (by rw [fx_length]; decide) (by rw [fx_length]; decide)
  rw [List.drop_zero, fx_take] at hc
  exact Kd.C_alloc hc _
theorem lc5_cell (w : World) (g : Nat) (h : HasB w g fx) : w.cell? ⟨g, 18, none⟩ = some (.int .u8 1) := by
  refine (cell_of_row w g 18 _ 47 (0, 0) h).trans ?_
  have e := fx_18
  simp [cellsOf, e]
set_option maxHeartbeats 8000000 in
set_option maxRecDepth 100000 in
theorem lives05 (w : World) : Calls Try.prog 47 #[] w fun e w' => e = .returned (.bool true) ∧ Below w.heap.size w w' := by
  have HM := make45
  have hsl : ∀ (g : Nat) (W : World), (Instr.sliceAt 47 (.pointer (some ⟨g, 0, none⟩)) none (some (.int .i64 6)) none).run Try.prog W = .ok (.slice (some ⟨g, 0, none⟩) 6 64) W := fun g W => slice47_h g 6 (by decide) W
  have S0 := Aside0.mk (St.mk (Below.refl w.heap.size w) (bl := []) (fun p hp => by cases hp))
  go_enter Try.func47, Try.ntmps47
  go_wp2_with (first
    | (go_at_call 38; ((with_reducible refine (lc5_none _).mono ?_); rintro e w1 ⟨rfl, hb⟩; have S1 := Aside0.mk (S0.out.call hb); clear hb S0))
    | ((with_reducible refine gate_store47 (x := .tmp 1) rfl ?_); go_must (refine storeB rfl (.tmp 1) (.tmp 20) rfl w1.heap.size rfl zeros zeros rfl rfl rfl (HasB.new w1 zeros _ rfl) ?_; intro w2 hs ht; have S2 := Aside0.mk (S1.out.stored hs ht); clear hs ht S1))
    | (go_at_call 38; ((with_reducible refine (lc5_long _).mono ?_); rintro e w3 ⟨rfl, hb⟩; have S3 := Aside0.mk ((S2.out.alloc _).call hb); clear hb S2))
    | ((with_reducible refine gate_store47 (x := .tmp 3) rfl ?_); go_must (refine storeB rfl (.tmp 3) (.tmp 25) rfl w3.heap.size rfl zeros zeros rfl rfl rfl (HasB.new w3 zeros _ rfl) ?_; intro w4 hs ht; have S4 := Aside0.mk (S3.out.stored hs ht); clear hs ht S3))
    | (go_at_call 38; ((with_reducible refine (lc5_x _).mono ?_); rintro e w5 ⟨rfl, hb⟩; have S5 := Aside0.mk ((S4.out.alloc _).call hb); clear hb S4))
    | ((with_reducible refine gate_store47 (x := .tmp 5) rfl ?_); go_must (refine storeB rfl (.tmp 5) (.tmp 30) rfl w5.heap.size rfl fx zeros fx_length rfl rfl (HasB.new w5 zeros _ rfl) ?_; intro w6 hs ht; have S6 := Aside0.mk (S5.out.stored hs ht); clear hs ht S5))
    | (go_at_call 38; ((with_reducible refine (lc5_5 _).mono ?_); rintro e w7 ⟨rfl, hb⟩; have S7 := Aside0.mk (S6.out.call hb); clear hb S6))
    | ((with_reducible refine gate_store47 (x := .tmp 7) rfl ?_); go_must (refine storeB rfl (.tmp 7) (.tmp 34) rfl w7.heap.size rfl f5 zeros f5_length rfl rfl (HasB.new w7 zeros _ rfl) ?_; intro w8 hs ht; have S8 := Aside0.mk (S7.out.stored hs ht); clear hs ht S7))
    | (go_at_call 38; ((with_reducible refine (lc5_6 _).mono ?_); rintro e w9 ⟨rfl, hb⟩; have S9 := Aside0.mk (S8.out.call hb); clear hb S8))
    | ((with_reducible refine gate_store47 (x := .tmp 9) rfl ?_); go_must (refine storeB rfl (.tmp 9) (.tmp 38) rfl w9.heap.size rfl f6 zeros f6_length rfl rfl (HasB.new w9 zeros _ rfl) ?_; intro w10 hs ht; have S10 := Aside0.mk (S9.out.stored hs ht); clear hs ht S9))
    | ((with_reducible refine gate_load47 (x := .tmp 7) rfl ?_); (try (refine gate_guard (by rfl) ?_; dsimp only)); refine loadB rfl (.tmp 7) rfl w7.heap.size rfl f5 f5_length (by first | exact S11.out.has (w7.heap.size, f5) (by simp) | exact S16.out.has (w7.heap.size, f5) (by simp)) ?_)
    | ((with_reducible refine gate_load47 (x := .tmp 9) rfl ?_); (try (refine gate_guard (by rfl) ?_; dsimp only)); refine loadB rfl (.tmp 9) rfl w9.heap.size rfl f6 f6_length (by first | exact S11.out.has (w9.heap.size, f6) (by simp) | exact S16.out.has (w9.heap.size, f6) (by simp)) ?_)
    | (go_at_call 45; ((with_reducible refine (lc5_mix _).mono ?_); rintro e w12 ⟨rfl, hb⟩; have S12 := Aside0.mk (S11.out.call hb); clear hb S11))
    | ((with_reducible refine gate_store47 (x := .tmp 14) rfl ?_); go_must (refine storeB rfl (.tmp 14) (.tmp 48) rfl w12.heap.size rfl fm zeros fm_length rfl rfl (HasB.new w12 zeros _ rfl) ?_; intro w13 hs ht; have S13 := Aside0.mk (S12.out.stored hs ht); clear hs ht S12))
    | ((with_reducible refine gate_load47 (x := .tmp 14) rfl ?_); (try (refine gate_guard (by rfl) ?_; dsimp only)); refine loadB rfl (.tmp 14) rfl w12.heap.size rfl fm fm_length (by first | exact S13.out.has (w12.heap.size, fm) (by simp) | exact S15.out.has (w12.heap.size, fm) (by simp)) ?_)
    | (go_at_call 40; ((with_reducible refine (got_bad fm fm_length fm_bytes fm_not_whole _).mono ?_); rintro e w14 ⟨rfl, hb⟩; have S14 := Aside0.mk (S13.out.call hb); clear hb S13))
    | (go_at_call 32; ((with_reducible refine (lc5_same _ _ (S14.out.has (w5.heap.size, fx) (by simp))).mono ?_); rintro e w' ⟨rfl, ⟨nd, rfl⟩⟩; have S15 := Aside0.mk ((S14.out.alloc (.cells #[.int .u8 0, .int .u8 0, .int .u8 1, .int .u8 2, .int .u8 7, .int .u8 0] 5)).drew nd); have hcell := lc5_cell _ _ (S15.out.has (w5.heap.size, fx) (by simp)); clear S14))
    | (go_at_call 43; ((with_reducible refine (lc5_great _).mono ?_); rintro e w16 ⟨rfl, hb⟩; have S16 := Aside0.mk (S15.out.call hb); clear hb S15))
    | (go_at_call 45; ((with_reducible refine (lc5_mix31 _).mono ?_); rintro e w17 ⟨rfl, hb⟩; have S17 := Aside0.mk (S16.out.call hb); clear hb S16))
    | (go_at_call 43; ((with_reducible refine (lc5_great31 _).mono ?_); rintro e w18 ⟨rfl, hb⟩; have S18 := Aside0.mk (S17.out.call hb); clear hb S17))
    | (go_at_call 40; (refine (got_bad zeros rfl zeros_bytes zeros_not_whole _).mono ?_; rintro e w11 ⟨rfl, hb⟩; have S11 := Aside0.mk (S10.out.call hb); clear hb S10)))
  go_ret
  exact ⟨rfl, S18.out.below⟩
end Go.Proofs.Ytjenbffnpekbjaa.F
