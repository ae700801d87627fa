/- num.Get, the whole contract: what it answers, by the plain law of the number of bytes. -/
import Derived.Test.YtjenbffnpekbjaaGet1
import Derived.Test.YtjenbffnpekbjaaPureNum
namespace Go.Proofs.Ytjenbffnpekbjaa.F
open Go.RowKit Go.Proofs.YtjenbffnpekbjaaW.PrintWords Go.Proofs.YtjenbffnpekbjaaW.PrintLast Go.Proofs.YtjenbffnpekbjaaW.PrintMore
set_option linter.unusedVariables false

theorem val_down (size : Nat) (hs : size ≤ 8) (zs : List Int) (hlen : zs.length = size) (h8 : ∀ c ∈ zs, 0 ≤ c ∧ c < 256) (d : Nat) : ∀ m, m + d = size → val zs (downTo size m) = be (zs.drop m) := by
  induction d with
  | zero =>
    intro m hm
    obtain rfl : m = size := by omega
    rw [downTo_all, List.drop_eq_nil_of_le (by omega)]
    rfl
  | succ d ih =>
    intro m hm
    have hlt : m < size := by omega
    have hlz : m < zs.length := by omega
    rw [downTo_succ size m hlt, val_snoc, ih (m + 1) (by omega), List.drop_eq_getElem_cons hlz, be_cons]
    unfold step
    have hz : (zs[m]?.getD 0) = zs[m] := by simp [List.getElem?_eq_getElem hlz]
    simp only [hz]
    have hc := h8 zs[m] (List.getElem_mem hlz)
    have hv := be_range (zs.drop (m + 1)) (fun c hc => h8 c (List.mem_of_mem_drop hc))
    have hld : (zs.drop (m + 1)).length = d := by simp; omega
    rw [hld] at hv ⊢
    have hsz : size - 1 - m = d := by omega
    rw [hsz, Nat.min_eq_left (by omega)]
    generalize zs[m] = c at hc ⊢
    generalize be (zs.drop (m + 1)) = v at hv ⊢
    obtain ⟨C, rfl⟩ := Int.eq_ofNat_of_zero_le hc.1
    obtain ⟨V, rfl⟩ := Int.eq_ofNat_of_zero_le hv.1
    have hp : (256 : Int) ^ d = ((2 ^ (8 * d) : Nat) : Int) := by
      rw [Nat.pow_mul]
      simp
    have hp2 : (2 : Int) ^ (8 * d) = ((2 ^ (8 * d) : Nat) : Int) := by simp
    rw [hp] at hv ⊢
    rw [hp2]
    have hpb : 2 ^ (8 * d) ≤ 2 ^ 56 := Nat.pow_le_pow_right (by omega) (by omega)
    have hpp : 0 < 2 ^ (8 * d) := Nat.two_pow_pos _
    have hV : V < 2 ^ (8 * d) := by omega
    have hor := Nat.two_pow_add_eq_or_of_lt hV C
    generalize 2 ^ (8 * d) = p at *
    have hcp : C * p ≤ 255 * p := Nat.mul_le_mul_right p (by omega)
    have e1 : IntKind.u64.wrap (C : Int) = (C : Int) := by rw [IntKind.wrap_u64]; omega
    have e2 : ((C : Int) * (p : Int)) = ((C * p : Nat) : Int) := by simp
    have e3 : IntKind.u64.wrap ((C * p : Nat) : Int) = ((C * p : Nat) : Int) := by rw [IntKind.wrap_u64]; omega
    rw [e1, e2, e3, bits_or_u64_nat V (C * p) (by omega) (by omega), Nat.or_comm, Nat.mul_comm C p, ← hor]
    omega
theorem val_be (size : Nat) (hs : size ≤ 8) (zs : List Int) (hlen : zs.length = size) (h8 : ∀ c ∈ zs, 0 ≤ c ∧ c < 256) : val zs (List.finRange size).reverse = be zs := by
  have := val_down size hs zs hlen h8 size 0 (by omega)
  simpa [downTo_zero] using this

set_option maxHeartbeats 2000000 in
theorem num_Get.calls (A0 : Option Addr) (c0 : Nat) (l : List Int) (a n : Int) (w : World) (hr : Kd.C (Kd.int .u8) w A0 l.length l) (hc0 : l.length ≤ c0) (hl : l.length ≤ 140737488351232) (h8 : ∀ c ∈ l, 0 ≤ c ∧ c < 256) (ha : I64 a) (hn : I64 n) :
    Calls Try.prog 28 #[.slice A0 l.length c0, .int .i64 a, .int .i64 n] w fun e w' => e = .returned (.tuple #[.int .u64 (getR l a n).1, .int .i64 (getR l a n).2]) ∧ Below w.heap.size w w' := by
  have HSZ := Aside0.mk (sized_eq n hn)
  unfold I64 at ha hn
  obtain ⟨ha1, ha2⟩ := ha
  obtain ⟨hn1, hn2⟩ := hn
  have HR := Aside0.mk hr
  have H8 := Aside0.mk h8
  clear hr h8
  by_cases hs : IsSz n
  · by_cases h0 : a < 0
    · have E := Aside0.mk (show getR l a n = (0, 2) by unfold getR; rw [if_pos (Or.inr (Or.inl h0))])
      rw [E.out]
      rw [decide_eq_true hs] at HSZ
      clear HR hs
      go_enter Try.func28, Try.ntmps28
      go_wp2_with (go_at_call 49; refine (num_sized.calls n true _ HSZ.out).mono ?_; rintro e w' ⟨rfl, ⟨nd, rfl⟩⟩)
      exact bodyPost_ret (v := .tuple #[.int .u64 0, .int .i64 2]) (by simp [results, Try.results28, go_sem]) rfl ⟨rfl, by refine Below.setCell (p := ⟨w.heap.size + 1, 0, none⟩) ?_ (by simp) _; repeat (first | exact Below.refl _ _ | apply below_drew1 | apply pw_below_drewN | apply below_alloc)⟩
    by_cases h1 : (l.length : Int) < a
    · have E := Aside0.mk (show getR l a n = (0, 2) by unfold getR; rw [if_pos (Or.inr (Or.inr h1))])
      rw [E.out]
      rw [decide_eq_true hs] at HSZ
      clear HR hs
      go_enter Try.func28, Try.ntmps28
      go_wp2_with (go_at_call 49; refine (num_sized.calls n true _ HSZ.out).mono ?_; rintro e w' ⟨rfl, ⟨nd, rfl⟩⟩)
      exact bodyPost_ret (v := .tuple #[.int .u64 0, .int .i64 2]) (by simp [results, Try.results28, go_sem]) rfl ⟨rfl, by refine Below.setCell (p := ⟨w.heap.size + 1, 0, none⟩) ?_ (by simp) _; repeat (first | exact Below.refl _ _ | apply below_drew1 | apply pw_below_drewN | apply below_alloc)⟩
    by_cases h2 : (l.length : Int) - a < n
    · have E := Aside0.mk (show getR l a n = (0, 4) by unfold getR; rw [if_neg (by simp [hs, h0, h1]), if_pos h2])
      rw [E.out]
      rw [decide_eq_true hs] at HSZ
      obtain ⟨m, rfl⟩ := Int.eq_ofNat_of_zero_le (show 0 ≤ a by omega)
      have hml : m ≤ l.length := by omega
      have hq : ((l.length - m : Nat) : Int) < n := by omega
      have hnn : ¬ n < 0 := by omega
      clear HR hs h0 h1 h2 ha1 ha2
      go_enter Try.func28, Try.ntmps28
      go_wp2_with (go_at_call 49; refine (num_sized.calls n true _ HSZ.out).mono ?_; rintro e w' ⟨rfl, ⟨nd, rfl⟩⟩)
      all_goals exact bodyPost_ret (v := .tuple #[.int .u64 0, .int .i64 4]) (by simp [results, Try.results28, go_sem]) rfl ⟨rfl, by refine Below.setCell (p := ⟨w.heap.size + 1, 0, none⟩) ?_ (by simp) _; repeat (first | exact Below.refl _ _ | apply below_drew1 | apply pw_below_drewN | apply below_alloc)⟩
    · have E := Aside0.mk (show getR l a n = (be ((l.drop a.toNat).take n.toNat), 0) by unfold getR; rw [if_neg (by simp [hs, h0, h1]), if_neg h2])
      rw [E.out]
      obtain ⟨m, rfl⟩ := Int.eq_ofNat_of_zero_le (show 0 ≤ a by omega)
      obtain ⟨s, rfl⟩ := Int.eq_ofNat_of_zero_le (show 0 ≤ n by unfold IsSz at hs; omega)
      have hs8 : 1 ≤ s ∧ s ≤ 8 := by unfold IsSz at hs; omega
      obtain ⟨ad, rfl, hcell⟩ := (Kd.reads_of_C (d := (0 : Int)) HR.out).2.2 (by omega)
      obtain ⟨b, off, spot⟩ := ad
      have hspot : spot = none := by simpa [Addr.add] using World.cell?_spot (hcell 0 (by omega))
      subst hspot
      have hbl : b < w.heap.size := World.block_lt_of_cell? w _ (hcell 0 (by omega))
      rw [Int.toNat_natCast, Int.toNat_natCast]
      have hzl : ((l.drop m).take s).length = s := by simp; omega
      rw [← val_be s hs8.2 _ hzl (fun c hc => H8.out c (List.mem_of_mem_drop (List.mem_of_mem_take hc)))]
      refine callsIn_wide.1 (get_in 3 (Nat.le_refl _) b off c0 l.length m s _ w hs hc0 (by omega) hl hbl ?_)
      intro j hj
      have h := hcell (m + j) (by omega)
      rw [Go.WideShapes.add_plain] at h
      rw [show off + m + j = off + (m + j) by omega, h]
      have hj1 : j < ((l.drop m).take s).length := by omega
      simp [List.getD_eq_getElem?_getD, hj]
  · have E := Aside0.mk (show getR l a n = (0, 2) by unfold getR; rw [if_pos (Or.inl hs)])
    rw [E.out]
    rw [decide_eq_false hs] at HSZ
    clear HR hs
    go_enter Try.func28, Try.ntmps28
    go_wp2_with (go_at_call 49; refine (num_sized.calls n false _ HSZ.out).mono ?_; rintro e w' ⟨rfl, ⟨nd, rfl⟩⟩)
    exact bodyPost_ret (v := .tuple #[.int .u64 0, .int .i64 2]) (by simp [results, Try.results28, go_sem]) rfl ⟨rfl, by refine Below.setCell (p := ⟨w.heap.size + 1, 0, none⟩) ?_ (by simp) _; repeat (first | exact Below.refl _ _ | apply below_drew1 | apply pw_below_drewN | apply below_alloc)⟩
end Go.Proofs.Ytjenbffnpekbjaa.F
