/- Contracts of num.Zero and num.Add, and of the library's functions beneath them. -/
import Derived.Test.YtjenbffnpekbjaaFn1
import Derived.Laws.Externs
namespace Go.Proofs.Ytjenbffnpekbjaa.F
open Go.RowKit Go.Proofs.YtjenbffnpekbjaaW.PrintWords Go.Proofs.YtjenbffnpekbjaaW.PrintLast Go.Proofs.YtjenbffnpekbjaaW.PrintMore
/-! ### num.Zero, with slices.ContainsFunc and IndexFunc at its own test -/
theorem pos_calls (c : Int) (w : World) (h : 0 < c) : Calls Try.prog 55 #[.int .u8 c] w fun e w' => e = .returned (.bool true) ∧ w = w' := by
  go_enter Try.func55, Try.ntmps55
  go_wp2
  go_ret
  exact ⟨by simp, rfl⟩
theorem zero_calls (w : World) : Calls Try.prog 55 #[.int .u8 0] w fun e w' => e = .returned (.bool false) ∧ w = w' := by
  go_enter Try.func55, Try.ntmps55
  go_wp2
  go_ret
  exact ⟨rfl, rfl⟩
def fnz (l : List Int) : Int := if l.all (· == 0) then -1 else (l.findIdx (· != 0) : Nat)
theorem fnz_none {l : List Int} {i : Nat} (hi : i = l.length) (h : ∀ x ∈ l.take i, x = 0) : fnz l = -1 := by
  subst hi
  rw [List.take_length] at h
  unfold fnz
  rw [if_pos (by simpa using h)]
theorem fnz_some {l : List Int} {i : Nat} (hi : i < l.length) (h : ∀ x ∈ l.take i, x = 0) (hx : l[i] ≠ 0) : fnz l = i := by
  unfold fnz
  rw [if_neg (by simp; exact ⟨l[i], List.getElem_mem hi, hx⟩)]
  congr 1
  refine (List.findIdx_eq hi).2 ⟨by simpa using hx, fun j hj => ?_⟩
  have := h l[j] (List.mem_take_iff_getElem.2 ⟨j, by omega, rfl⟩)
  simp [this]
set_option maxHeartbeats 1000000 in
theorem idx_calls (A0 : Option Addr) (c0 : Nat) (l : List Int) (w : World) (hr : Kd.C (Kd.int .u8) w A0 l.length l) (h8 : ∀ x ∈ l, 0 ≤ x) :
    Calls Try.prog 63 #[.slice A0 l.length c0, .func (.func 55) #[] #[]] w fun e w' => e = .returned (.int .i64 (fnz l)) ∧ Drawn0 w w' := by
  have HR := Aside0.mk hr
  have HM := Aside0.mk (Kd.C_max hr)
  have H8 := Aside0.mk h8
  clear hr h8
  go_enter Try.func63, Try.ntmps63
  go_wp2
  go_loopg [8] l.length (fun d v8 w' => ∃ i : Nat, v8 = .int .i64 i ∧ Aside0 (i + d = l.length) ∧ Aside0 (∀ x ∈ l.take i, x = 0) ∧ Drawn0 w w')
  case atStart => exact ⟨0, rfl, ⟨by omega⟩, ⟨by simp⟩, Drawn0.refl _⟩
  case round =>
    obtain ⟨i, rfl, HI, HZ, ⟨m1, rfl⟩⟩ := hrel
    cases gk with
    | zero =>
      have hge : l.length ≤ i := by have := HI.out; omega
      go_wp2
      go_ret
      exact ⟨by rw [fnz_none (by have := HI.out; omega) HZ.out]; rfl, by repeat (first | exact Drawn0.refl _ | apply Drawn0.step)⟩
    | succ d =>
      have hlt : i < l.length := by have := HI.out; omega
      obtain ⟨ad, rfl, hcell⟩ := (Kd.reads_of_C (d := (0 : Int)) HR.out).2.2 (by omega)
      have hc := hcell i hlt
      rw [show (l.getD i 0) = l[i] by simp [List.getD_eq_getElem?_getD, List.getElem?_eq_getElem hlt]] at hc
      clear hcell
      have HX := Aside0.mk (H8.out _ (List.getElem_mem hlt))
      have HS : Aside0 (∀ y, y = l[i] → y = 0 → ∀ x ∈ l.take (i + 1), x = 0) := ⟨fun y hy h0 x hx => by
        rw [List.take_succ_eq_append_getElem hlt, List.mem_append, List.mem_singleton] at hx
        rcases hx with hx | hx
        · exact HZ.out x hx
        · rw [hx, ← hy, h0]⟩
      have HF : Aside0 (∀ y, y = l[i] → y ≠ 0 → fnz l = i) := ⟨fun y hy h0 => fnz_some hlt HZ.out (by rw [← hy]; exact h0)⟩
      generalize hy : l[i] = y at *
      have HY := Aside0.mk hy
      clear hy
      have hm := HM.out
      by_cases h0 : y = 0
      · subst h0
        go_wp2_with (go_at_call 55; refine (zero_calls _).mono ?_; rintro e w' ⟨rfl, rfl⟩)
        go_roundg d
        case measure => omega
        case rel => exact ⟨i + 1, by go_num, ⟨by have := HI.out; omega⟩, ⟨HS.out 0 rfl rfl⟩, by repeat (first | exact Drawn0.refl _ | apply Drawn0.step)⟩
      · have hp := Aside0.mk (show 0 < y by have := HX.out; omega)
        go_wp2_with (go_at_call 55; refine (pos_calls _ _ hp.out).mono ?_; rintro e w' ⟨rfl, rfl⟩)
        go_ret
        exact ⟨by rw [HF.out y rfl h0]; rfl, by repeat (first | exact Drawn0.refl _ | apply Drawn0.step)⟩
end Go.Proofs.Ytjenbffnpekbjaa.F
namespace Go.Proofs.Ytjenbffnpekbjaa.F
open Go.RowKit Go.Proofs.YtjenbffnpekbjaaW.PrintWords Go.Proofs.YtjenbffnpekbjaaW.PrintLast Go.Proofs.YtjenbffnpekbjaaW.PrintMore
theorem contains_calls (A0 : Option Addr) (c0 : Nat) (l : List Int) (w : World) (hr : Kd.C (Kd.int .u8) w A0 l.length l) (h8 : ∀ x ∈ l, 0 ≤ x) :
    Calls Try.prog 54 #[.slice A0 l.length c0, .func (.func 55) #[] #[]] w fun e w' => e = .returned (.bool (decide (0 ≤ fnz l))) ∧ Drawn0 w w' := by
  have HR := Aside0.mk hr
  have H8 := Aside0.mk h8
  clear hr h8
  go_enter Try.func54, Try.ntmps54
  go_wp2_with (go_at_call 63; refine (idx_calls _ _ l _ HR.out H8.out).mono ?_; rintro e w' ⟨rfl, ⟨nd, rfl⟩⟩)
  go_ret
  exact ⟨rfl, by repeat (first | exact Drawn0.refl _ | apply Drawn0.step)⟩
def num_Zero.f (l : List Int) (a n : Int) : Int :=
  if a < 0 ∨ (l.length : Int) < a ∨ n < 0 then 2 else if (l.length : Int) - a < n then 4 else if 0 ≤ fnz ((l.take (a + n).toNat).drop a.toNat) then 5 else 0
set_option maxHeartbeats 1000000 in
theorem num_Zero.calls (A0 : Option Addr) (c0 : Nat) (l : List Int) (a n : Int) (w : World) (hr : Kd.C (Kd.int .u8) w A0 l.length l) (hc0 : l.length ≤ c0) (hl : l.length ≤ 140737488351232) (h8 : ∀ x ∈ l, 0 ≤ x) (ha : -9223372036854775808 ≤ a ∧ a ≤ 9223372036854775807) (hn : -9223372036854775808 ≤ n ∧ n ≤ 9223372036854775807) :
    Calls Try.prog 35 #[.slice A0 l.length c0, .int .i64 a, .int .i64 n] w fun e w' => e = .returned (.int .i64 (num_Zero.f l a n)) ∧ Drawn0 w w' := by
  have HR := Aside0.mk hr
  have H8 := Aside0.mk h8
  have HC := Aside0.mk hc0
  clear hr h8 hc0
  obtain ⟨ha1, ha2⟩ := ha
  obtain ⟨hn1, hn2⟩ := hn
  by_cases h0 : a < 0
  · have E := Aside0.mk (show num_Zero.f l a n = 2 by unfold num_Zero.f; rw [if_pos (Or.inl h0)])
    go_enter Try.func35, Try.ntmps35
    go_wp2
    go_ret
    exact ⟨by rw [E.out]; rfl, by repeat (first | exact Drawn0.refl _ | apply Drawn0.step)⟩
  by_cases h1 : (l.length : Int) < a
  · have E := Aside0.mk (show num_Zero.f l a n = 2 by unfold num_Zero.f; rw [if_pos (Or.inr (Or.inl h1))])
    go_enter Try.func35, Try.ntmps35
    go_wp2
    go_ret
    exact ⟨by rw [E.out]; rfl, by repeat (first | exact Drawn0.refl _ | apply Drawn0.step)⟩
  by_cases h2 : n < 0
  · have E := Aside0.mk (show num_Zero.f l a n = 2 by unfold num_Zero.f; rw [if_pos (Or.inr (Or.inr h2))])
    go_enter Try.func35, Try.ntmps35
    go_wp2
    go_ret
    exact ⟨by rw [E.out]; rfl, by repeat (first | exact Drawn0.refl _ | apply Drawn0.step)⟩
  by_cases h3 : (l.length : Int) - a < n
  · have E := Aside0.mk (show num_Zero.f l a n = 4 by unfold num_Zero.f; rw [if_neg (by omega), if_pos h3])
    go_enter Try.func35, Try.ntmps35
    go_wp2
    go_ret
    exact ⟨by rw [E.out]; rfl, by repeat (first | exact Drawn0.refl _ | apply Drawn0.step)⟩
  obtain ⟨i0, hi, _, hsz, _⟩ := info_parts info5
  obtain ⟨A', hrun, hread, hcap⟩ := print_mid_int (P := Try.prog) (k := .u8) 23 5 Try.underlying23 hi hsz A0 c0 l a (a + n) (by omega) (by omega) (by omega) HC.out
  have HY := Aside0.mk (show Kd.C (Kd.int .u8) w A' _ ((l.take (a + n).toNat).drop a.toNat) from Kd.C_of_reads (d := (0 : Int)) (h1 := fun _ => rfl) (hread w (Kd.reads_of_C (d := (0 : Int)) HR.out)))
  have HYC := Aside0.mk hcap
  have HY8 : Aside0 (∀ x ∈ ((l.take (a + n).toNat).drop a.toNat), 0 ≤ x) := ⟨fun x hx => H8.out x (List.mem_of_mem_take (List.mem_of_mem_drop hx))⟩
  have EQ := Aside0.mk (show num_Zero.f l a n = if 0 ≤ fnz ((l.take (a + n).toNat).drop a.toNat) then 5 else 0 by unfold num_Zero.f; rw [if_neg (by omega), if_neg h3])
  clear hread hcap hi hsz
  have e0 : wrap64 (a + n) = a + n := by unfold wrap64; omega
  generalize ((l.take (a + n).toNat).drop a.toNat) = ys at *
  by_cases h4 : 0 ≤ fnz ys
  · have E := Aside0.mk (show num_Zero.f l a n = 5 by rw [EQ.out, if_pos h4])
    have h5 := decide_eq_true h4
    clear EQ h4
    go_enter Try.func35, Try.ntmps35
    go_wp2_with (go_at_call 54; refine (contains_calls _ _ ys _ HY.out HY8.out).mono ?_; rintro e w' ⟨rfl, ⟨nd, rfl⟩⟩)
    go_ret
    exact ⟨by rw [E.out]; rfl, by repeat (first | exact Drawn0.refl _ | apply Drawn0.step)⟩
  · have E := Aside0.mk (show num_Zero.f l a n = 0 by rw [EQ.out, if_neg h4])
    have h5 := decide_eq_false h4
    clear EQ h4
    go_enter Try.func35, Try.ntmps35
    go_wp2_with (go_at_call 54; refine (contains_calls _ _ ys _ HY.out HY8.out).mono ?_; rintro e w' ⟨rfl, ⟨nd, rfl⟩⟩)
    go_ret
    exact ⟨by rw [E.out]; rfl, by repeat (first | exact Drawn0.refl _ | apply Drawn0.step)⟩
/-! ### num.Add -/
theorem add64_0 (x y : Int) (hx : 0 ≤ x) (hy : 0 ≤ y) (w : World) : (callFunc 53 #[.int .u64 x, .int .u64 y, .int .u64 0]).run Try.prog w =
    .ok (.value (.tuple #[.int .u64 ((x + y) % 18446744073709551616), .int .u64 ((x + y) / 18446744073709551616)])) w := by
  rw [run_callFunc_extern Try.func53 (by kernel_rfl) (by kernel_rfl) (by kernel_rfl) (e := add64Entry) (by kernel_rfl), run_add64 x y 0 hx hy (Int.le_refl 0) (by decide)]
  simp only [Result.andThen, Int.add_zero]
theorem num_Add.fits (x y : Int) (w : World) (hx : 0 ≤ x) (hy : 0 ≤ y) (h : x + y < 18446744073709551616) :
    Calls Try.prog 30 #[.int .u64 x, .int .u64 y] w fun e w' => e = .returned (.tuple #[.int .u64 (x + y), .bool true]) ∧ w = w' := by
  have e1 : (x + y) % 18446744073709551616 = x + y := by omega
  have e2 : (x + y) / 18446744073709551616 = 0 := by omega
  have hh := add64_0 x y hx hy
  rw [e1, e2] at hh
  clear e1 e2
  go_enter Try.func30, Try.ntmps30
  go_wp2_with (simp only [hh])
  go_ret2
  exact ⟨rfl, rfl⟩
theorem num_Add.over (x y : Int) (w : World) (hx : 0 ≤ x) (hy : 0 ≤ y) (hx' : x < 18446744073709551616) (hy' : y < 18446744073709551616) (h : 18446744073709551616 ≤ x + y) :
    Calls Try.prog 30 #[.int .u64 x, .int .u64 y] w fun e w' => e = .returned (.tuple #[.int .u64 0, .bool false]) ∧ w = w' := by
  have e2 : (x + y) / 18446744073709551616 = 1 := by omega
  have hh := add64_0 x y hx hy
  rw [e2] at hh
  clear e2 h hx' hy'
  go_enter Try.func30, Try.ntmps30
  go_wp2_with (simp only [hh])
  go_ret2
  exact ⟨rfl, rfl⟩
end Go.Proofs.Ytjenbffnpekbjaa.F
