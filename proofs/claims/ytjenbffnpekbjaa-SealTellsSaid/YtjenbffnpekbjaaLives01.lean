/- The statements' own 'lives' of layer 1 returns true. -/
import Derived.Test.YtjenbffnpekbjaaWide
import Derived.Test.YtjenbffnpekbjaaGet2
namespace Go.Proofs.Ytjenbffnpekbjaa.F
open Go.RowKit Go.Proofs.YtjenbffnpekbjaaW.PrintWords Go.Proofs.YtjenbffnpekbjaaW.PrintLast Go.Proofs.YtjenbffnpekbjaaW.PrintMore
set_option linter.unusedVariables false

/-- A list's cells. -/
def cellsOf (l : List Int) : Array Value := (l.map (Value.int .u8)).toArray
theorem C_new (w : World) (l : List Int) (t : TypeId) (fr : Nat × Nat) (g : Nat) (hg : g = w.heap.size) (hl : l.length ≤ 9223372036854775807) : Kd.C (Kd.int .u8) (w.alloc (.cells (cellsOf l) t fr)) (some ⟨g, 0, none⟩) l.length l := by
  subst hg
  refine Kd.C_of_reads (d := 0) ⟨rfl, hl, fun _ => ⟨_, rfl, fun j hj => ?_⟩⟩
  rw [add_plain]
  refine (World.cell?_alloc_mark w _ t fr j).trans ?_
  simp [cellsOf, hj, List.getD_eq_getElem?_getD]
/-- What is put: at a known answer. -/
theorem put_at (x n : Int) (r1 : List Int) (r2 : Int) (w : World) (hx : U64 x) (hn : I64 n) (h : putR x n = (r1, r2)) :
    Calls Try.prog 26 #[.int .u64 x, .int .i64 n] w fun e w' => ∃ v0_ : Value, e = .returned (.tuple #[v0_, .int .i64 r2]) ∧ Kd.R (Kd.int .u8) 5 w' w.heap.size (fun _ => True) v0_ r1 ∧ Below w.heap.size w w' :=
  num_Put.calls 12 x n r1 r2 w ((num_put_eq x n hx hn).trans (by rw [h]))
theorem get_at (A0 : Option Addr) (c0 : Nat) (l : List Int) (a n r1 r2 : Int) (w : World) (hr : Kd.C (Kd.int .u8) w A0 l.length l) (hc0 : l.length ≤ c0) (hl : l.length ≤ 140737488351232) (h8 : ∀ c ∈ l, 0 ≤ c ∧ c < 256) (ha : I64 a) (hn : I64 n) (h : getR l a n = (r1, r2)) :
    Calls Try.prog 28 #[.slice A0 l.length c0, .int .i64 a, .int .i64 n] w fun e w' => e = .returned (.tuple #[.int .u64 r1, .int .i64 r2]) ∧ Below w.heap.size w w' := by
  have := num_Get.calls A0 c0 l a n w hr hc0 hl h8 ha hn
  rwa [h] at this
theorem zero_at (A0 : Option Addr) (c0 : Nat) (l : List Int) (a n r : Int) (w : World) (hr : Kd.C (Kd.int .u8) w A0 l.length l) (hc0 : l.length ≤ c0) (hl : l.length ≤ 140737488351232) (h8 : ∀ c ∈ l, 0 ≤ c ∧ c < 256) (ha : I64 a) (hn : I64 n) (h : num_Zero.f l a n = r) :
    Calls Try.prog 35 #[.slice A0 l.length c0, .int .i64 a, .int .i64 n] w fun e w' => e = .returned (.int .i64 r) ∧ Drawn0 w w' := by
  have := num_Zero.calls A0 c0 l a n w hr hc0 hl (fun x hx => (h8 x hx).1) ha hn
  rwa [h] at this
theorem pad_at (n r : Int) (w : World) (hn : I64 n) (h : padR n = r) : Calls Try.prog 33 #[.int .i64 n] w fun e w' => e = .returned (.int .i64 r) ∧ Below w.heap.size w w' :=
  num_Pad.calls n r w ((num_pad_eq n hn).trans (by rw [h]))

theorem lv_put1 : putR 258 2 = ([1, 2], 0) := by decide +kernel
theorem lv_put2 : putR 256 1 = ([], 2) := by decide +kernel
theorem lv_get1 : getR [1, 2] 0 2 = (258, 0) := by decide +kernel
theorem lv_get2 : getR [1] 0 2 = (0, 4) := by decide +kernel
theorem lv_zero1 : num_Zero.f [0, 0, 1] 0 2 = 0 := by decide +kernel
theorem lv_zero2 : num_Zero.f [0, 0, 1] 1 2 = 5 := by decide +kernel
theorem i64_lit (n : Int) (h : -9223372036854775808 ≤ n ∧ n ≤ 9223372036854775807) : I64 n := h
theorem u8_12 : ∀ c ∈ ([1, 2] : List Int), 0 ≤ c ∧ c < 256 := by decide
theorem u8_1 : ∀ c ∈ ([1] : List Int), 0 ≤ c ∧ c < 256 := by decide
theorem u8_001 : ∀ c ∈ ([0, 0, 1] : List Int), 0 ≤ c ∧ c < 256 := by decide
theorem i64_0 : I64 0 := by unfold I64; omega
theorem i64_1 : I64 1 := by unfold I64; omega
theorem i64_2 : I64 2 := by unfold I64; omega
theorem lc_put1 (w : World) : Calls Try.prog 26 #[.int .u64 258, .int .i64 2] w fun e w' => ∃ v0_ : Value, e = .returned (.tuple #[v0_, .int .i64 0]) ∧ Kd.R (Kd.int .u8) 5 w' w.heap.size (fun _ => True) v0_ [1, 2] ∧ Below w.heap.size w w' :=
  put_at 258 2 _ _ _ (by unfold U64; omega) i64_2 lv_put1
theorem lc_put2 (w : World) : Calls Try.prog 26 #[.int .u64 256, .int .i64 1] w fun e w' => ∃ v0_ : Value, e = .returned (.tuple #[v0_, .int .i64 2]) ∧ Kd.R (Kd.int .u8) 5 w' w.heap.size (fun _ => True) v0_ [] ∧ Below w.heap.size w w' :=
  put_at 256 1 _ _ _ (by unfold U64; omega) i64_1 lv_put2
theorem lc_get1 (w : World) (g : Nat) (hg : g = w.heap.size) : Calls Try.prog 28 #[.slice (some ⟨g, 0, none⟩) 2 2, .int .i64 0, .int .i64 2] (w.alloc (.cells #[.int .u8 1, .int .u8 2] 5)) fun e w' => e = .returned (.tuple #[.int .u64 258, .int .i64 0]) ∧ Below (w.alloc (.cells #[.int .u8 1, .int .u8 2] 5)).heap.size (w.alloc (.cells #[.int .u8 1, .int .u8 2] 5)) w' :=
  get_at _ _ [1, 2] 0 2 _ _ _ (C_new w [1, 2] 5 (0, 0) g hg (by decide)) (by decide) (by decide) u8_12 i64_0 i64_2 lv_get1
theorem lc_get2 (w : World) (g : Nat) (hg : g = w.heap.size) : Calls Try.prog 28 #[.slice (some ⟨g, 0, none⟩) 1 1, .int .i64 0, .int .i64 2] (w.alloc (.cells #[.int .u8 1] 5)) fun e w' => e = .returned (.tuple #[.int .u64 0, .int .i64 4]) ∧ Below (w.alloc (.cells #[.int .u8 1] 5)).heap.size (w.alloc (.cells #[.int .u8 1] 5)) w' :=
  get_at _ _ [1] 0 2 _ _ _ (C_new w [1] 5 (0, 0) g hg (by decide)) (by decide) (by decide) u8_1 i64_0 i64_2 lv_get2
theorem lc_add (w : World) : Calls Try.prog 30 #[.int .u64 18446744073709551615, .int .u64 1] w fun e w' => e = .returned (.tuple #[.int .u64 0, .bool false]) ∧ w = w' :=
  num_Add.over 18446744073709551615 1 _ (by omega) (by omega) (by omega) (by omega) (by omega)
theorem lc_same (w : World) (A : Option Addr) (c g : Nat) (hg : g = w.heap.size) (h : Kd.C (Kd.int .u8) w A 2 [1, 2]) (hc : 2 ≤ c) : Calls Try.prog 32 #[.slice A 2 c, .slice (some ⟨g, 0, none⟩) 2 2] (w.alloc (.cells #[.int .u8 1, .int .u8 2] 5)) fun e w' => e = .returned (.bool true) ∧ Drawn0 (w.alloc (.cells #[.int .u8 1, .int .u8 2] 5)) w' :=
  same_refl_calls _ _ _ _ 2 [1, 2] _ rfl (Kd.C_alloc h _) hc (C_new w [1, 2] 5 (0, 0) g hg (by decide)) (Nat.le_refl _)
theorem lc_pad5 (w : World) : Calls Try.prog 33 #[.int .i64 5] w fun e w' => e = .returned (.int .i64 3) ∧ Below w.heap.size w w' := pad_at 5 3 _ (by unfold I64; omega) (by decide)
theorem lc_pad8 (w : World) : Calls Try.prog 33 #[.int .i64 8] w fun e w' => e = .returned (.int .i64 0) ∧ Below w.heap.size w w' := pad_at 8 0 _ (by unfold I64; omega) (by decide)
theorem lc_zero1 (w : World) (g : Nat) (hg : g = w.heap.size) : Calls Try.prog 35 #[.slice (some ⟨g, 0, none⟩) 3 3, .int .i64 0, .int .i64 2] (w.alloc (.cells #[.int .u8 0, .int .u8 0, .int .u8 1] 5)) fun e w' => e = .returned (.int .i64 0) ∧ Drawn0 (w.alloc (.cells #[.int .u8 0, .int .u8 0, .int .u8 1] 5)) w' :=
  zero_at _ _ [0, 0, 1] 0 2 0 _ (C_new w [0, 0, 1] 5 (0, 0) g hg (by decide)) (by decide) (by decide) u8_001 i64_0 i64_2 lv_zero1
theorem lc_zero2 (w : World) (g : Nat) (hg : g = w.heap.size) : Calls Try.prog 35 #[.slice (some ⟨g, 0, none⟩) 3 3, .int .i64 1, .int .i64 2] (w.alloc (.cells #[.int .u8 0, .int .u8 0, .int .u8 1] 5)) fun e w' => e = .returned (.int .i64 5) ∧ Drawn0 (w.alloc (.cells #[.int .u8 0, .int .u8 0, .int .u8 1] 5)) w' :=
  zero_at _ _ [0, 0, 1] 1 2 5 _ (C_new w [0, 0, 1] 5 (0, 0) g hg (by decide)) (by decide) (by decide) u8_001 i64_1 i64_2 lv_zero2

set_option maxHeartbeats 2000000 in
set_option maxRecDepth 100000 in
theorem lives01 (w : World) : Calls Try.prog 37 #[] w fun e w' => e = .returned (.bool true) ∧ Below w.heap.size w w' := by
  go_enter Try.func37, Try.ntmps37
  go_wp2_with (first
    | (go_at_call 26; ((with_reducible refine (lc_put1 _).mono ?_); rintro e w1 ⟨v1, rfl, ho, hb⟩; obtain ⟨A1, c1, e1⟩ := Kd.R_slice ho; subst e1; have HA1 := Aside0.mk (Kd.R_reads' ho).2.2; have HAc := Aside0.mk (Kd.R_reads' ho).2.1; have HB1 := Aside0.mk hb; clear ho hb; simp only [List.length_cons, List.length_nil, Nat.zero_add, Nat.reduceAdd] at HA1 HAc ⊢))
    | (go_at_call 26; ((with_reducible refine (lc_put2 _).mono ?_); rintro e w2 ⟨v2, rfl, ho, hb⟩; obtain ⟨A2, c2, e2⟩ := Kd.R_slice ho; subst e2; have HA2 := Aside0.mk (Kd.C_below HA1.out hb); have HB2 := Aside0.mk (below_step HB1.out hb); clear ho hb HA1 HB1))
    | (go_at_call 28; ((with_reducible refine (lc_get1 _ _ rfl).mono ?_); rintro e w3 ⟨rfl, hb⟩; have HA3 := Aside0.mk (Kd.C_below (Kd.C_alloc HA2.out _) hb); have HB3 := Aside0.mk (below_step (below_alloc HB2.out _) hb); clear hb HA2 HB2))
    | (go_at_call 28; ((with_reducible refine (lc_get2 _ _ rfl).mono ?_); rintro e w4 ⟨rfl, hb⟩; have HA4 := Aside0.mk (Kd.C_below (Kd.C_alloc HA3.out _) hb); have HB4 := Aside0.mk (below_step (below_alloc HB3.out _) hb); clear hb HA3 HB3))
    | (go_at_call 30; ((with_reducible refine (lc_add _).mono ?_); rintro e w' ⟨rfl, rfl⟩))
    | (go_at_call 32; ((with_reducible refine (lc_same _ _ _ _ rfl HA4.out HAc.out).mono ?_); rintro e w' ⟨rfl, ⟨nd, rfl⟩⟩))
    | (go_at_call 33; ((with_reducible refine (lc_pad5 _).mono ?_); rintro e w5 ⟨rfl, hb⟩; have HB5 := Aside0.mk (below_step (pw_below_drewN (below_alloc HB4.out _) _) hb); clear hb HB4))
    | (go_at_call 33; ((with_reducible refine (lc_pad8 _).mono ?_); rintro e w6 ⟨rfl, hb⟩; have HB6 := Aside0.mk (below_step HB5.out hb); clear hb HB5))
    | (go_at_call 35; ((with_reducible refine (lc_zero1 _ _ rfl).mono ?_); rintro e w' ⟨rfl, ⟨nd, rfl⟩⟩))
    | (go_at_call 35; ((with_reducible refine (lc_zero2 _ _ (by simp)).mono ?_); rintro e w' ⟨rfl, ⟨nd, rfl⟩⟩)))
  go_ret
  exact ⟨rfl, pw_below_drewN (below_alloc (pw_below_drewN (below_alloc HB6.out _) _) _) _⟩
end Go.Proofs.Ytjenbffnpekbjaa.F
