/- NumPuts: the bytes of any number, the number of any bytes, padding, bytes of 0, and sums, are the reference's. -/
import Derived.Test.YtjenbffnpekbjaaLives01
namespace Go.Proofs.Ytjenbffnpekbjaa.F
open Go.RowKit Go.Proofs.YtjenbffnpekbjaaW.PrintWords Go.Proofs.YtjenbffnpekbjaaW.PrintLast Go.Proofs.YtjenbffnpekbjaaW.PrintMore
set_option linter.unusedVariables false
theorem add_at (x y r : Int) (b : Bool) (w : World) (hx : U64 x) (hy : U64 y) (h : addR x y = (r, b)) : Calls Try.prog 30 #[.int .u64 x, .int .u64 y] w fun e w' => e = .returned (.tuple #[.int .u64 r, .bool b]) ∧ w = w' := by
  unfold U64 at hx hy
  unfold addR at h
  by_cases c : x + y < 18446744073709551616
  · rw [if_pos c] at h
    cases h
    exact num_Add.fits x y w (by omega) (by omega) c
  · rw [if_neg c] at h
    cases h
    exact num_Add.over x y w (by omega) (by omega) (by omega) (by omega) (by omega)
/-- Any list of bytes is told to be itself, whatever its row. -/
theorem same_at (A0 : Option Addr) (c0 : Nat) (A1 : Option Addr) (c1 : Nat) (l : List Int) (w : World) (h0 : Kd.C (Kd.int .u8) w A0 l.length l) (hc0 : l.length ≤ c0) (h1 : Kd.C (Kd.int .u8) w A1 l.length l) (hc1 : l.length ≤ c1) :
    Calls Try.prog 32 #[.slice A0 l.length c0, .slice A1 l.length c1] w fun e w' => e = .returned (.bool true) ∧ Drawn0 w w' :=
  same_refl_calls _ _ _ _ _ l _ rfl h0 hc0 h1 hc1
set_option maxHeartbeats 4000000 in
set_option maxRecDepth 100000 in
theorem puts_walk (n m size : Int) (A3 : Option Addr) (c3 : Nat) (b : List Int) (at_ many : Int) (w : World) (wn : (Lit.int .u64 n).wf = true) (wm : (Lit.int .u64 m).wf = true) (ws : (Lit.int .i64 size).wf = true)
    (hr : Kd.C (Kd.int .u8) w A3 b.length b) (hc3 : b.length ≤ c3) (hl : b.length ≤ 140737488351232) (h8 : ∀ x ∈ b, (Lit.int .u8 x).wf = true) (wa : (Lit.int .i64 at_).wf = true) (wy : (Lit.int .i64 many).wf = true) :
    Calls Try.prog 7 #[.int .u64 n, .int .u64 m, .int .i64 size, .slice A3 b.length c3, .int .i64 at_, .int .i64 many] w fun e w' => e = .returned (.bool true) ∧ Below w.heap.size w w' := by
  have un := u64_of_wf wn
  have um := u64_of_wf wm
  have is := i64_of_wf ws
  have ia := i64_of_wf wa
  have iy := i64_of_wf wy
  have hb8 : ∀ c ∈ b, 0 ≤ c ∧ c < 256 := fun c hc => by have := bounds_u8 (h8 c hc); omega
  obtain ⟨⟨x, e⟩, hput⟩ : ∃ r, putR n size = r := ⟨_, rfl⟩
  obtain ⟨⟨p, g⟩, hget⟩ : ∃ r, getR b at_ size = r := ⟨_, rfl⟩
  obtain ⟨⟨s, i⟩, hadd⟩ : ∃ r, addR n m = r := ⟨_, rfl⟩
  obtain ⟨pd, hpad⟩ : ∃ r, padR many = r := ⟨_, rfl⟩
  obtain ⟨z, hzero⟩ : ∃ r, num_Zero.f b at_ many = r := ⟨_, rfl⟩
  have F1 := Aside0.mk (put_at n size x e · un is hput)
  have F2 := Aside0.mk (show wharfageref01_Put.f 12 n size = some (x, e) from (ref_put_eq n size un).trans (by rw [hput]))
  have F3 := Aside0.mk (fun (A0 : Option Addr) (c0 : Nat) (w : World) (hr : Kd.C (Kd.int .u8) w A0 b.length b) (hc : b.length ≤ c0) => get_at A0 c0 b at_ size p g w hr hc hl hb8 ia is hget)
  have F4 := Aside0.mk (show wharfageref01_Get.f 12 b at_ size = some (p, g) from (ref_get_eq b at_ size (by omega) hb8 ia is).trans (by rw [hget]))
  have F5 := Aside0.mk (add_at n m s i · un um hadd)
  have F6 := Aside0.mk (show wharfageref01_Add.f n m = some (s, i) from (ref_add_eq n m un um).trans (by rw [hadd]))
  have F7 := Aside0.mk (pad_at many pd · iy hpad)
  have F8 := Aside0.mk (show wharfageref01_Pad.f many = some pd from (ref_pad_eq many iy).trans (by rw [hpad]))
  have F9 := Aside0.mk (fun (A0 : Option Addr) (c0 : Nat) (w : World) (hr : Kd.C (Kd.int .u8) w A0 b.length b) (hc : b.length ≤ c0) => zero_at A0 c0 b at_ many z w hr hc hl hb8 ia iy hzero)
  have F10 := Aside0.mk (show wharfageref01_Zero.f (b.length + 2) b at_ many = some z from (ref_zero_eq b at_ many (by omega) ia iy).trans (by rw [hzero]))
  have HR := Aside0.mk hr
  have HC := Aside0.mk hc3
  have HL := Aside0.mk hl
  clear wn wm ws hr hc3 hl h8 wa wy un um is ia iy hb8 hput hget hadd hpad hzero
  go_enter Try.func7, Try.ntmps7
  go_wp2_with (first
    | (go_at_call 14; ((with_reducible refine (wide_calls _ _ b _ HR.out HC.out (by have := HL.out; omega)).mono ?_); rintro e w1 ⟨g, cap, rfl, ho, hb⟩; have HO1 := Aside0.mk (Kd.R_reads' ho).2.2; have HQ := Aside0.mk (Kd.R_reads' ho).2.1; have HB1 := Aside0.mk hb; have HR1 := Aside0.mk (Kd.C_below HR.out hb); have HWc := Aside0.mk (show b.length ≤ cap by have := HQ.out; rw [List.length_append] at this; omega); clear ho hb HR))
    | (go_at_call 26; ((with_reducible refine (F1.out _).mono ?_); rintro e w2 ⟨v2, rfl, ho, hb⟩; obtain ⟨A2, c2, e2⟩ := Kd.R_slice ho; subst e2; have HX2 := Aside0.mk (Kd.R_reads' ho).2.2; have HXc := Aside0.mk (Kd.R_reads' ho).2.1; have HO2 := Aside0.mk (Kd.C_below HO1.out hb); have HR2 := Aside0.mk (Kd.C_below HR1.out hb); have HB2 := Aside0.mk (below_step HB1.out hb); clear ho hb HO1 HR1 HB1))
    | (go_at_call 27; ((with_reducible refine (wharfageref01_Put.calls 12 _ _ _ _ _ F2.out).mono ?_); rintro e w3 ⟨v3, rfl, ho, hb⟩; obtain ⟨A4, c4, e3⟩ := Kd.R_slice ho; subst e3; have HY3 := Aside0.mk (Kd.R_reads' ho).2.2; have HYc := Aside0.mk (Kd.R_reads' ho).2.1; have HX3 := Aside0.mk (Kd.C_below HX2.out hb); have HO3 := Aside0.mk (Kd.C_below HO2.out hb); have HR3 := Aside0.mk (Kd.C_below HR2.out hb); have HB3 := Aside0.mk (below_step HB2.out hb); clear ho hb HX2 HO2 HR2 HB2))
    | (go_at_call 28; ((with_reducible refine (F3.out _ _ _ (take_C HO3.out) HWc.out).mono ?_); rintro e w4 ⟨rfl, hb⟩; have HY4 := Aside0.mk (Kd.C_below HY3.out hb); have HX4 := Aside0.mk (Kd.C_below HX3.out hb); have HO4 := Aside0.mk (Kd.C_below HO3.out hb); have HR4 := Aside0.mk (Kd.C_below HR3.out hb); have HB4 := Aside0.mk (below_step HB3.out hb); clear hb HY3 HX3 HO3 HR3 HB3))
    | (go_at_call 29; ((with_reducible refine (wharfageref01_Get.calls 12 _ _ b _ _ _ _ _ HR4.out HC.out F4.out).mono ?_); rintro e w' ⟨rfl, ⟨nd, rfl⟩⟩))
    | (go_at_call 30; ((with_reducible refine (F5.out _).mono ?_); rintro e w' ⟨rfl, rfl⟩))
    | (go_at_call 31; ((with_reducible refine (wharfageref01_Add.calls _ _ _ _ _ F6.out).mono ?_); rintro e w' ⟨rfl, ⟨nd, rfl⟩⟩))
    | (go_at_call 32; ((with_reducible refine (same_at _ _ _ _ x _ (Kd.C_drewN HX4.out _) HXc.out (Kd.C_drewN HY4.out _) HYc.out).mono ?_); rintro e w' ⟨rfl, ⟨nd, rfl⟩⟩))
    | (go_at_call 33; ((with_reducible refine (F7.out _).mono ?_); rintro e w5 ⟨rfl, hb⟩; have HO5 := Aside0.mk (Kd.C_below (Kd.C_drewN HO4.out _) hb); have HR5 := Aside0.mk (Kd.C_below (Kd.C_drewN HR4.out _) hb); have HB5 := Aside0.mk (below_step (pw_below_drewN HB4.out _) hb); clear hb HO4 HR4 HB4))
    | (go_at_call 34; ((with_reducible refine (wharfageref01_Pad.calls _ _ _ F8.out).mono ?_); rintro e w' ⟨rfl, ⟨nd, rfl⟩⟩))
    | (go_at_call 35; ((with_reducible refine (F9.out _ _ _ (Kd.C_drewN (take_C HO5.out) _) HWc.out).mono ?_); rintro e w' ⟨rfl, ⟨nd, rfl⟩⟩))
    | (go_at_call 36; ((with_reducible refine (wharfageref01_Zero.calls _ _ _ b _ _ _ _ (Kd.C_drewN HR5.out _) HC.out F10.out).mono ?_); rintro e w' ⟨rfl, ⟨nd, rfl⟩⟩))
    | (go_at_call 23; ((with_reducible refine (left_calls _ _ b _ _ _ (Kd.C_drewN HO5.out _) HQ.out (Kd.C_drewN HR5.out _) HC.out (by have := HL.out; omega)).mono ?_); rintro e w' ⟨rfl, ⟨nd, rfl⟩⟩))
    | (go_at_call 37; ((with_reducible refine (lives01 _).mono ?_); rintro e w6 ⟨rfl, hb⟩; have HB6 := Aside0.mk (below_step (pw_below_drewN HB5.out _) hb); clear hb HB5)))
  go_ret
  exact ⟨rfl, HB6.out⟩
end Go.Proofs.Ytjenbffnpekbjaa.F
