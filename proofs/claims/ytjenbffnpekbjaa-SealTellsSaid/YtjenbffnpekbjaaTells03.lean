/- SumTells: the reference's sum is the program's; the walk of SumTells. -/
import Derived.Test.YtjenbffnpekbjaaPureSum
import Derived.Test.YtjenbffnpekbjaaWide
namespace Go.Proofs.Ytjenbffnpekbjaa.F
open Go.RowKit Go.Proofs.YtjenbffnpekbjaaW.PrintWords Go.Proofs.YtjenbffnpekbjaaW.PrintLast Go.Proofs.YtjenbffnpekbjaaW.PrintMore
attribute [local go_sem] max2_int min2_int max_two min_two max_three min_three max_four min_four
set_option linter.unusedVariables false
set_option linter.unusedSimpArgs false

/-! ### The reference's sum is the program's -/
theorem rby_eq (a b : Int) (ha : U32 a) (hb : 0 ≤ b ∧ b < 4294967296) (hab : 0 ≤ a * b ∧ a * b < 18446744073709551616) : wharfageref03_by.f a b = some (a * b % 4294967296) := by
  have ha' := ha
  unfold U32 at ha'
  have e1 : IntKind.u64.wrap a = a := by rw [IntKind.wrap_u64]; omega
  have e2 : IntKind.u64.wrap b = b := by rw [IntKind.wrap_u64]; omega
  have e3 : IntKind.u64.wrap (a * b) = a * b := by
    rw [IntKind.wrap_u64]
    generalize a * b = x at hab
    omega
  unfold wharfageref03_by.f
  rw [e1, e2, e3, Int.tmod_eq_emod_of_nonneg hab.1]
  generalize a * b = x
  congr 1
  omega
theorem xor_range {s c : Int} (hs : U32 s) (hc : U8 c) : U32 (Go.bits .xor .u32 s (c % 4294967296)) := by
  obtain ⟨a, rfl⟩ := Int.eq_ofNat_of_zero_le hs.1
  obtain ⟨b, rfl⟩ := Int.eq_ofNat_of_zero_le hc.1
  have ha := hs.2
  have hb := hc.2
  have e : ((b : Int) % 4294967296) = ((b : Nat) : Int) := by omega
  rw [e, u32_xor_nat a b (by omega) (by omega)]
  have := xor_lt a b (by omega) (by omega)
  unfold U32
  omega
theorem rtake_eq {s c : Int} (hs : U32 s) (hc : U8 c) : wharfageref03_Take.f s c = some (tk s c) := by
  have h := xor_range hs hc
  have h' := h
  unfold U32 at h'
  unfold wharfageref03_Take.f
  rw [rby_eq _ _ h (by omega) (by omega)]
  rfl
theorem rback_eq {s c : Int} (hs : U32 s) : wharfageref03_Back.f s c = some (bk s c) := by
  have h' := hs
  unfold U32 at h'
  unfold wharfageref03_Back.f
  rw [rby_eq _ _ hs (by omega) (by omega)]
  rfl
theorem rmore_loop (l : List Int) (hl : l.length ≤ 140737488355328) (hc : ∀ x ∈ l, U8 x) (d : Nat) : ∀ (k i : Nat) (s : Int), U32 s → i ≤ l.length → l.length - i = d → d < k →
    wharfageref03_More.l0 k s l (i : Int) = some (fold s (l.drop i)) := by
  induction d with
  | zero =>
    intro k i s _ hi hd hk
    obtain ⟨k, rfl⟩ : ∃ m, k = m + 1 := ⟨k - 1, by omega⟩
    simp only [wharfageref03_More.l0]
    rw [if_neg (by omega), List.drop_eq_nil_of_le (by omega)]
    rfl
  | succ d ih =>
    intro k i s hs hi hd hk
    obtain ⟨k, rfl⟩ : ∃ m, k = m + 1 := ⟨k - 1, by omega⟩
    have hlt : i < l.length := by omega
    simp only [wharfageref03_More.l0]
    rw [if_pos (by omega), if_pos (by omega), rd_lt l i hlt, rtake_eq hs (hc _ (List.getElem_mem hlt)), Option.bind_some, wrap_up hlt hl, ih k (i + 1) _ (tk_range _ _) (by omega) (by omega) (by omega), List.drop_eq_getElem_cons hlt]
    rfl
theorem rmore_eq (k : Nat) (s : Int) (l : List Int) (hs : U32 s) (hc : ∀ x ∈ l, U8 x) (hl : l.length ≤ 140737488355328) (hk : l.length < k) : wharfageref03_More.f k s l = some (fold s l) := by
  have h := rmore_loop l hl hc l.length k 0 s hs (by omega) (by omega) hk
  simpa [wharfageref03_More.f] using h
theorem rof_eq (k : Nat) (l : List Int) (hc : ∀ x ∈ l, U8 x) (hl : l.length ≤ 140737488355328) (hk : l.length < k) : wharfageref03_Of.f k l = some (fold 2166136261 l) := by
  simp [wharfageref03_Of.f, rmore_eq k _ l u32_begin hc hl hk]

/-! ### SumTells: function 3 -/
theorem len_wide (l : List Int) : (l ++ [9, 9, 9]).length = l.length + 3 := by simp
set_option maxHeartbeats 2000000 in
theorem tells03_walk (s c : Int) (A2 : Option Addr) (c2 : Nat) (l : List Int) (w : World) (hs : U32 s) (hc : U8 c) (h2 : Kd.C (Kd.int .u8) w A2 l.length l) (hc2 : l.length ≤ c2) (hl : l.length ≤ 140737488351232) (h8 : ∀ x ∈ l, U8 x) :
    Calls Try.prog 3 #[.int .u32 s, .int .u8 c, .slice A2 l.length c2] w fun e w' => e = .returned (.bool true) ∧ Below w.heap.size w w' := by
  have HR := Aside0.mk h2
  have HC := Aside0.mk hc2
  have HL := Aside0.mk hl
  have F1 := Aside0.mk (take_eq s c)
  have F2 := Aside0.mk (rtake_eq hs hc)
  have F3 := Aside0.mk (more_eq (l.length + 1) s l (by omega) (by omega))
  have F4 := Aside0.mk (rmore_eq (l.length + 1) s l hs h8 (by omega) (by omega))
  have F5 := Aside0.mk (of_eq (l.length + 1) l (by omega) (by omega))
  have F6 := Aside0.mk (rof_eq (l.length + 1) l h8 (by omega) (by omega))
  have F7 := Aside0.mk (back_eq s c)
  have F8 := Aside0.mk (rback_eq (s := s) (c := c) hs)
  clear h2 hc2 hl h8 hs hc
  generalize tk s c = r1 at *
  generalize fold s l = r2 at *
  generalize fold 2166136261 l = r3 at *
  generalize bk s c = r4 at *
  go_enter Try.func3, Try.ntmps3
  go_wp2_with (first
    | (go_at_call 14; (refine (wide_calls _ _ l _ HR.out HC.out (by have := HL.out; omega)).mono ?_); rintro e w1 ⟨g, cap, rfl, ho, hb⟩; have HO := Aside0.mk (Kd.R_reads' ho).2.2; have HQ := Aside0.mk (Kd.R_reads' ho).2.1; have HB := Aside0.mk hb; have HR1 := Aside0.mk (Kd.C_below HR.out hb); have HW := Aside0.mk (take_C HO.out); have HWc := Aside0.mk (show l.length ≤ cap by have := HQ.out; rw [len_wide] at this; omega); clear ho hb HR)
    | (go_at_call 15; (refine (sum_Take.calls s c r1 _ F1.out).mono ?_); rintro e w' ⟨rfl, ⟨nd, rfl⟩⟩)
    | (go_at_call 16; (refine (wharfageref03_Take.calls s c r1 _ F2.out).mono ?_); rintro e w' ⟨rfl, ⟨nd, rfl⟩⟩)
    | (go_at_call 17; (refine (sum_More.calls _ s _ _ l r2 _ ?s1 ?s2 F3.out).mono ?_); (case s1 => repeat (first | exact HW.out | refine Kd.C_drewN ?_ _)); (case s2 => exact HWc.out); rintro e w' ⟨rfl, ⟨nd, rfl⟩⟩)
    | (go_at_call 18; (refine (wharfageref03_More.calls _ s _ _ l r2 _ ?s1 ?s2 F4.out).mono ?_); (case s1 => repeat (first | exact HR1.out | refine Kd.C_drewN ?_ _)); (case s2 => exact HC.out); rintro e w' ⟨rfl, ⟨nd, rfl⟩⟩)
    | (go_at_call 19; (refine (sum_Of.calls _ _ _ l r3 _ ?s1 ?s2 F5.out).mono ?_); (case s1 => repeat (first | exact HW.out | refine Kd.C_drewN ?_ _)); (case s2 => exact HWc.out); rintro e w' ⟨rfl, ⟨nd, rfl⟩⟩)
    | (go_at_call 20; (refine (wharfageref03_Of.calls _ _ _ l r3 _ ?s1 ?s2 F6.out).mono ?_); (case s1 => repeat (first | exact HR1.out | refine Kd.C_drewN ?_ _)); (case s2 => exact HC.out); rintro e w' ⟨rfl, ⟨nd, rfl⟩⟩)
    | (go_at_call 21; (refine (sum_Back.calls s c r4 _ F7.out).mono ?_); rintro e w' ⟨rfl, ⟨nd, rfl⟩⟩)
    | (go_at_call 22; (refine (wharfageref03_Back.calls s c r4 _ F8.out).mono ?_); rintro e w' ⟨rfl, ⟨nd, rfl⟩⟩)
    | (go_at_call 23; (refine (left_calls _ _ l _ _ _ ?s1 HQ.out ?s2 HC.out (by have := HL.out; omega)).mono ?_); (case s1 => repeat (first | exact HO.out | refine Kd.C_drewN ?_ _)); (case s2 => repeat (first | exact HR1.out | refine Kd.C_drewN ?_ _)); rintro e w' ⟨rfl, ⟨nd, rfl⟩⟩)
    | (go_at_call 24; (refine (lives03 _).mono ?_); rintro e w5 ⟨rfl, hb5⟩; have HB5 := Aside0.mk hb5; clear hb5))
  go_ret
  exact ⟨rfl, below_step (pw_below_drewN HB.out _) HB5.out⟩
theorem u32_of_wf {s : Int} (h : (Lit.int .u32 s).wf = true) : U32 s := by
  have := bounds_u32 h
  unfold U32
  omega
theorem c8_of_wf {s : Int} (h : (Lit.int .u8 s).wf = true) : U8 s := by
  have := bounds_u8 h
  unfold U8
  omega
theorem tells03_row (s c : Int) (A2 : Option Addr) (c2 : Nat) (l : List Int) (w : World) (ws : (Lit.int .u32 s).wf = true) (wc : (Lit.int .u8 c).wf = true) (h2 : Kd.C (Kd.int .u8) w A2 l.length l) (hc2 : l.length ≤ c2) (hl : l.length ≤ 140737488351232) (h8 : ∀ x ∈ l, (Lit.int .u8 x).wf = true) :
    Calls Try.prog 3 #[.int .u32 s, .int .u8 c, .slice A2 l.length c2] w fun e w' => e = .returned (.bool true) ∧ Below w.heap.size w w' :=
  tells03_walk s c A2 c2 l w (u32_of_wf ws) (c8_of_wf wc) h2 hc2 hl (u8_of_wf h8)


end Go.Proofs.Ytjenbffnpekbjaa.F
