/- seal.Put: the walk. -/
import Derived.Test.YtjenbffnpekbjaaSeal4
namespace Go.Proofs.Ytjenbffnpekbjaa.F
open Go.RowKit Go.Proofs.YtjenbffnpekbjaaW.PrintWords Go.Proofs.YtjenbffnpekbjaaW.PrintLast Go.Proofs.YtjenbffnpekbjaaW.PrintMore
set_option linter.unusedVariables false
/-- A body with 0s behind it. -/
def padL (x : List Int) : List Int := x ++ List.replicate (44 - x.length) 0
/-- Body and sum. -/
def allL (n : Int) (x : List Int) : List Int := padL x ++ bs (fnv n (padL x)) 4
/-- The first q quarters of a block. -/
def blkL (n : Int) (all : List Int) : Nat → List Int
  | 0 => zeros
  | q + 1 => lay (lay (blkL n all q) (16 * q) (bs n 4)) (16 * q + 4) ((all.drop (12 * q)).take 12)
def putB (n : Int) (x : List Int) : List Int × Int := if 44 < x.length then (zeros, 3) else if n < 1 then (zeros, 2) else (blkL n (allL n x) 4, 0)
theorem padL_length (x : List Int) (h : x.length ≤ 44) : (padL x).length = 44 := by simp [padL]; omega
theorem bs4_length (n : Int) : (bs n 4).length = 4 := bs_length n 4 (by unfold IsSz; simp)
theorem allL_length (n : Int) (x : List Int) (h : x.length ≤ 44) : (allL n x).length = 48 := by rw [allL, List.length_append, padL_length x h, bs4_length]
theorem blkL_length (n : Int) (all : List Int) (h : all.length = 48) : ∀ q, q ≤ 4 → (blkL n all q).length = 64 := by
  intro q
  induction q with
  | zero => intro _; rfl
  | succ q ih =>
    intro hq
    have e := ih (by omega)
    have h1 : (lay (blkL n all q) (16 * q) (bs n 4)).length = 64 := by rw [lay_length _ _ _ (by rw [bs4_length]; omega), e]
    have h2 : ((all.drop (12 * q)).take 12).length = 12 := by simp; omega
    rw [blkL, lay_length _ _ _ (by rw [h1, h2]; omega), h1]
theorem slice_lo (b off len cap lo : Nat) (h : lo < cap) (h1 : lo ≤ len) (w : World) : (Instr.slice 23 (.slice (some ⟨b, off, none⟩) len cap) (some (.int .i64 lo)) none none).run Try.prog w = .ok (.slice (some ⟨b, off + lo, none⟩) (len - lo) (cap - lo)) w := by
  rw [run_slice_l w 23 _ len cap Try.underlying23 .i64 lo (by omega) (by omega)]
  have hs : (sizeOf (Try.prog.elem 23)).run Try.prog w = .ok 1 w := by kernel_rfl
  rw [hs]
  simp only [Result.andThen, sliced, Int.toNat_natCast]
  rw [if_neg (by omega)]
  simp [Addr.add]
theorem slice_lo_any (A : Option Addr) (len cap lo : Nat) (h1 : lo ≤ len) : ∃ A', ∀ w : World, (Instr.slice 23 (.slice A len cap) (some (.int .i64 lo)) none none).run Try.prog w = .ok (.slice A' (len - lo) (cap - lo)) w := by
  refine ⟨if cap = lo then A else A.map (·.add (lo * 1)), fun w => ?_⟩
  rw [run_slice_l w 23 _ len cap Try.underlying23 .i64 lo (by omega) (by omega)]
  have hs : (sizeOf (Try.prog.elem 23)).run Try.prog w = .ok 1 w := by kernel_rfl
  rw [hs]
  simp only [Result.andThen, sliced, Int.toNat_natCast]
theorem slice_put (b q cap : Nat) (hq : q < 4) (hc : 48 ≤ cap) : ∃ A', (q < 3 → A' = some ⟨b, 12 * (q + 1), none⟩) ∧ ∀ w : World, (Instr.slice 23 (.slice (some ⟨b, 12 * q, none⟩) (48 - 12 * q) (cap - 12 * q)) (some (.int .i64 12)) none none).run Try.prog w = .ok (.slice A' (48 - 12 * (q + 1)) (cap - 12 * (q + 1))) w := by
  by_cases h : q < 3
  · refine ⟨_, fun _ => rfl, fun w => ?_⟩
    rw [show (12 : Int) = ((12 : Nat) : Int) from rfl, slice_lo b (12 * q) _ _ 12 (by omega) (by omega), show 12 * q + 12 = 12 * (q + 1) by omega, show 48 - 12 * q - 12 = 48 - 12 * (q + 1) by omega, show cap - 12 * q - 12 = cap - 12 * (q + 1) by omega]
  · obtain ⟨A', h'⟩ := slice_lo_any (some ⟨b, 12 * q, none⟩) (48 - 12 * q) (cap - 12 * q) 12 (by omega)
    refine ⟨A', fun hh => absurd hh h, fun w => ?_⟩
    rw [show (12 : Int) = ((12 : Nat) : Int) from rfl, h' w, show 48 - 12 * q - 12 = 48 - 12 * (q + 1) by omega, show cap - 12 * q - 12 = cap - 12 * (q + 1) by omega]
theorem HasB5 (w : World) (zs : Array Value) (l : List Int) : ((w.alloc (.cells zs 47)).alloc (.cells (cellsOf l) 5)).heap[w.heap.size + 1]? = some (.cells (cellsOf l) 5 (0, 0)) := by
  have := heap_alloc_new (w.alloc (.cells zs 47)) (.cells (cellsOf l) 5)
  rwa [World.size_alloc] at this
theorem make44 (w : World) : (Instr.makeSlice 23 (.int .i64 44) (.int .i64 48)).run Try.prog w = .ok (.slice (some ⟨w.heap.size, 0, none⟩) 44 48) (w.alloc (.cells (cellsOf (List.replicate 48 0)) 5)) := by
  obtain ⟨i, hi, hz⟩ := Option.map_eq_some_iff.1 info5
  simp only [Prod.mk.injEq] at hz
  have h := run_make (P := Try.prog) w 23 5 i (.int .u8 0) Try.underlying23 hi hz.1 .i64 .i64 44 48 (by decide) (by decide) (by rw [hz.2.2]; decide) (by decide)
  rw [h, hz.2.1]
  have e : madeCells (Value.int .u8 0).cells (Int.toNat 48 * 1) = cellsOf (List.replicate 48 0) := by kernel_rfl
  rw [e]
  rfl
theorem C_grown {w w1 : World} {ad : Addr} {n : Nat} {l : List Int} {row : Option Nat} (h : Kd.C (Kd.int .u8) w (some ad) n l) (hg : w.grownBy w1 row) (hr : some ad.block ≠ row) (hb : ad.block < w.heap.size) : Kd.C (Kd.int .u8) w1 (some ad) n l := by
  have hr' := Kd.reads_of_C (d := (0 : Int)) h
  refine Kd.C_of_reads (d := 0) ⟨hr'.1, hr'.2.1, fun hn => ⟨ad, rfl, fun j hj => ?_⟩⟩
  rw [← cell_of_C h j hj]
  have hbl : (ad.add j).block = ad.block := by unfold Addr.add; split <;> rfl
  simp only [World.cell?, hbl, hg.block _ hb hr]
theorem C_block {w : World} {ad : Addr} {n : Nat} {l : List Int} (h : Kd.C (Kd.int .u8) w (some ad) n l) (hn : 0 < n) : ad.block < w.heap.size := by
  have := cell_of_C h 0 hn
  have hbl : (ad.add 0).block = ad.block := by unfold Addr.add; split <;> rfl
  rcases Nat.lt_or_ge ad.block w.heap.size with h1 | h1
  · exact h1
  · simp [World.cell?, hbl, Array.getElem?_eq_none h1] at this
theorem lay0 (x : List Int) (h : x.length ≤ 44) : (lay (List.replicate 48 0) 0 x).take 44 = padL x ∧ (lay (List.replicate 48 0) 0 x).length = 48 := by
  constructor
  · rw [List.ext_getElem?_iff]
    intro i
    simp only [lay, padL, List.take_zero, List.nil_append, Nat.zero_add, List.drop_replicate, List.getElem?_take, List.getElem?_append, List.getElem?_replicate]
    by_cases h1 : i < 44
    · rw [if_pos h1]
      by_cases h2 : i < x.length
      · rw [if_pos h2, if_pos h2]
      · rw [if_neg h2, if_neg h2, if_pos (by omega), if_pos (by omega)]
    · rw [if_neg h1, if_neg (by omega), if_neg (by omega)]
  · rw [lay_length _ _ _ (by simp; omega)]; simp
/-- The row that Put makes, when the body is copied. -/
theorem put_made (w W w1 : World) (B : Nat) (x : List Int) (m : Nat) (hB : w.heap.size + 1 = B) (hx : x.length = m) (h : m ≤ 44) (zs ys : Array Value) (hz : zs = cellsOf zeros) (hW : W = (w.alloc (.cells zs 47)).alloc (.cells ys 5))
    (hm : w1.heap[B]? = some (.cells (cellsOf (lay (List.replicate 48 0) 0 (x.take m))) 5 (0, 0))) (ht : Turn B W w1) :
    HasB w1 w.heap.size zeros ∧ Below w.heap.size w w1 ∧ w1.heap.size = B + 1 ∧ Kd.C (Kd.int .u8) w1 (some ⟨B, 0, none⟩) 44 (padL x) ∧ w1.ownsRow B 5 1 (.slice (some ⟨B, 0, none⟩) 44 48) (padL x).length (encs (Value.int .u8) (padL x)) := by
  subst hz hW hx
  rw [List.take_of_length_le (Nat.le_refl _)] at hm
  obtain ⟨h1, h2⟩ := lay0 x h
  refine ⟨((HasB.new w zeros _ rfl).alloc _).turn ht (by omega), ht.below (((Below.refl _ w).alloc (Nat.le_refl _) _).alloc (by simp) _) (by omega), by rw [ht.size]; simp; omega, ?_, ?_⟩
  · refine Kd.C_of_reads (d := 0) ⟨padL_length x h, by decide, fun _ => ⟨_, rfl, fun j hj => ?_⟩⟩
    rw [Go.WideShapes.add_plain]
    refine (cell_of_row w1 B (0 + j) _ 5 (0, 0) hm).trans ?_
    rw [cellsOf_at _ (0 + j) (by omega), ← h1]
    have hj2 : j < (lay (List.replicate 48 0) 0 x).length := by omega
    simp only [Nat.zero_add, List.getD_eq_getElem?_getD, List.getElem?_take, if_pos hj]
    rw [List.getElem?_eq_getElem hj2]
    rfl
  · rw [padL_length x h]
    refine ⟨by simp [encs, padL_length x h], .inr ⟨B, 48, _, rfl, Nat.le_refl _, hm, by decide, by decide, by rw [size_cellsOf, h2], ?_⟩⟩
    rw [← h1]
    simp [cellsOf, encs, List.map_take]
set_option maxHeartbeats 2000000 in
theorem put_calls (n : Int) (A1 : Option Addr) (c1 m : Nat) (x : List Int) (w : World) (hn : U32 n) (hx : x.length = m) (hl : m ≤ 140737488351232) (hr : Kd.C (Kd.int .u8) w A1 m x) (hc : m ≤ c1) :
    Calls Try.prog 38 #[.int .u32 n, .slice A1 m c1] w fun e w' => e = .returned (.tuple #[.agg (cellsOf (putB n x).1), .int .i64 (putB n x).2]) ∧ Below w.heap.size w w' := by
  have HX := Aside0.mk hx
  have HN := Aside0.mk hn
  have HR := Aside0.mk hr
  have HC := Aside0.mk hc
  clear hx hn hr hc
  have HM := make44
  go_enter Try.func38, Try.ntmps38
  by_cases h44 : (m : Int) > 44
  · have e : putB n x = (zeros, 3) := by unfold putB; rw [if_pos (by have := HX.out; omega)]
    rw [e]
    go_wp2_with (first
        | ((with_reducible refine gate_load47 rfl ?_); go_must (refine loadB rfl (.tmp 4) rfl w.heap.size rfl zeros rfl (HasB.new w zeros _ rfl) ?_))
        | ((with_reducible refine gate_store47 rfl ?_); go_must (refine storeB rfl (.tmp 4) (.tmp 14) rfl w.heap.size rfl zeros zeros rfl rfl rfl (HasB.new w zeros _ rfl) ?_; intro w1 hs ht; have HS := Aside0.mk hs; have HT := Aside0.mk ht; clear hs ht)))
    refine bodyPost_ret (run_result2 (p := 4) (u := 5) rfl _ _ w.heap.size zeros rfl rfl HS.out) rfl ?_
    exact ⟨rfl, HT.out.below (below_alloc (Below.refl w.heap.size w) _) (Nat.le_refl _)⟩
  · by_cases h1 : n < 1
    · have e : putB n x = (zeros, 2) := by unfold putB; rw [if_neg (by have := HX.out; omega), if_pos h1]
      rw [e]
      go_wp2_with (first
        | ((with_reducible refine gate_load47 rfl ?_); go_must (refine loadB rfl (.tmp 4) rfl w.heap.size rfl zeros rfl (HasB.new w zeros _ rfl) ?_))
        | ((with_reducible refine gate_store47 rfl ?_); go_must (refine storeB rfl (.tmp 4) (.tmp 17) rfl w.heap.size rfl zeros zeros rfl rfl rfl (HasB.new w zeros _ rfl) ?_; intro w1 hs ht; have HS := Aside0.mk hs; have HT := Aside0.mk ht; clear hs ht)))
      refine bodyPost_ret (run_result2 (p := 4) (u := 5) rfl _ _ w.heap.size zeros rfl rfl HS.out) rfl ?_
      exact ⟨rfl, HT.out.below (below_alloc (Below.refl w.heap.size w) _) (Nat.le_refl _)⟩
    · have e : putB n x = (blkL n (allL n x) 4, 0) := by unfold putB; rw [if_neg (by have := HX.out; omega), if_neg h1]
      rw [e]
      have hm44 : m ≤ 44 := by omega
      have H44 := Aside0.mk hm44
      have HPL := Aside0.mk (padL_length x (by have := HX.out; omega))
      have HAL := Aside0.mk (allL_length n x (by have := HX.out; omega))
      have HCX := Aside0.mk (Kd.C_alloc (Kd.C_alloc HR.out (.cells (cellsOf zeros) 47)) (.cells (cellsOf (List.replicate 48 0)) 5))
      go_wp2_with (first
        | ((with_reducible refine gate_builtin (b := .copy) (xs := #[.tmp 19, .tmp 20]) rfl ?_); go_must (refine copyB rfl (.tmp 19) (.tmp 20) rfl (w.heap.size + 1) 0 44 48 A1 m c1 rfl rfl (List.replicate 48 0) x 5 ?c0 HCX.out m ?c1 ?c2 ?_; (case c0 => exact HasB5 _ _ _); (case c1 => exact (Nat.min_eq_left H44.out).symm); (case c2 => have := H44.out; simp; omega); intro w1 hm ht; obtain ⟨k1, k2, k3, k4, k5⟩ := put_made w _ w1 (w.heap.size + 1) x m rfl HX.out H44.out _ _ rfl rfl hm ht; have K1 := Aside0.mk k1; have K2 := Aside0.mk k2; have K3 := Aside0.mk k3; have K4 := Aside0.mk k4; have K5 := Aside0.mk k5; clear hm ht k1 k2 k3 k4 k5))
        | (go_at_call 56; go_must ((with_reducible refine (sealed_at n _ 48 44 (padL x) _ HN.out HPL.out (by decide) K4.out (by decide)).mono ?_); rintro e w2 ⟨g0, c0, g1, c2, rfl, hg0, hg1, hc0, hc2, hC0, hC1, hb⟩; have L1 := Aside0.mk (K1.out.below hb); have L2 := Aside0.mk (below_step K2.out hb); have L3 := Aside0.mk hb; have L4 := Aside0.mk hC0; have L5 := Aside0.mk hC1; have L6 := Aside0.mk (pw_own_below K5.out hb); have L7 := Aside0.mk (show (w.heap.size + 1) < g0 by have := K3.out; omega); clear hg0 hg1 hc0 hc2 hC0 hC1 hb))
        | ((with_reducible refine gate_builtin (b := .append) (xs := #[.tmp 28, .tmp 29]) rfl ?_); at_builtin; go_must (refine print_append_row_of (w0 := w1) (Value.int .u8) (0 : Int) (w.heap.size + 1) rfl (.tmp 28) (.tmp 29) 23 5 (.int .u8 0) 1 rfl Try.underlying23 info5 rfl (by decide) (fun _ => rfl) _ (padL x) (bs (fnv n (padL x)) 4) _ _ _ rfl rfl ?o1 ?r1 ?b1 ?s1 ?l1 ?_; (case o1 => exact L6.out); (case r1 => exact Kd.reads_of_C L5.out); (case b1 => exact ⟨L3.out.os, L3.out.tape, L3.out.output, L3.out.size, fun k hk => L3.out.block k (by have := K3.out; omega)⟩); (case s1 => have := K3.out; have := L3.out.size; omega); (case l1 => rw [HPL.out]; decide); intro v3 w3 ho hB hg hat; obtain ⟨g3, c3, e3, hg3, hc3, hC3⟩ := own_at ho HAL.out (by decide); subst e3; have hg0 := L7.out; have hbb := C_block L4.out (by decide); have M1 := Aside0.mk (show HasB w3 w.heap.size zeros from (hB.block w.heap.size (by omega)).trans K1.out); have M2 := Aside0.mk (show Below w.heap.size w w3 from K2.out.trans ⟨hB.os, hB.tape, hB.output, hB.size, fun k hk => hB.block k (by omega)⟩); have M3 := Aside0.mk (C_grown L4.out hg (show some g0 ≠ some (w.heap.size + 1) from fun hh => by injection hh; omega) hbb); have M4 := Aside0.mk hC3; have M5 := Aside0.mk (show w.heap.size < g0 ∧ w.heap.size < g3 from ⟨by omega, by omega⟩); have M6 := Aside0.mk hc3; clear ho hB hg hat hg0 hbb hg3 hc3 hC3)))
      have BL := Aside0.mk (blkL_length n (allL n x) HAL.out)
      go_loopg [6, 31] 4 (fun kq v6 v31 w' => ∃ (q : Nat) (A : Option Addr), Aside0 (q + kq = 4) ∧ v31 = .int .i64 q ∧ v6 = .slice A (48 - 12 * q) (c3 - 12 * q) ∧ Aside0 (q < 4 → A = some ⟨g3, 12 * q, none⟩) ∧ Aside0 (HasB w' w.heap.size (blkL n (allL n x) q)) ∧ Aside0 (Kd.C (Kd.int .u8) w' (some ⟨g0, 0, none⟩) 4 (bs n 4)) ∧ Aside0 (Kd.C (Kd.int .u8) w' (some ⟨g3, 0, none⟩) 48 (allL n x)) ∧ Aside0 (Below w.heap.size w w'))
      case atStart => exact ⟨0, _, ⟨rfl⟩, rfl, rfl, ⟨fun _ => rfl⟩, M1, M3, M4, M2⟩
      case round =>
        clear M1 M2 M3 M4
        obtain ⟨q, A, HQ, rfl, rfl, HA, M1, M3, M4, M2⟩ := hrel
        cases gk with
        | zero =>
          have e := HQ.out
          obtain rfl : q = 4 := by omega
          go_wp2_with (first
            | ((with_reducible refine gate_load47 rfl ?_); go_must (refine loadB rfl (.tmp 4) rfl w.heap.size rfl _ (BL.out 4 (Nat.le_refl _)) M1.out ?_))
            | ((with_reducible refine gate_store47 rfl ?_); go_must (refine storeB rfl (.tmp 4) (.tmp 46) rfl w.heap.size rfl _ _ (BL.out 4 (Nat.le_refl _)) (BL.out 4 (Nat.le_refl _)) rfl M1.out ?_; intro w4 hs ht; have HS := Aside0.mk hs; have HT := Aside0.mk ht; clear hs ht)))
          refine bodyPost_ret (run_result2 (p := 4) (u := 5) rfl _ _ w.heap.size _ (BL.out 4 (Nat.le_refl _)) rfl HS.out) rfl ?_
          exact ⟨rfl, HT.out.below M2.out (Nat.le_refl _)⟩
        | succ k1 =>
          have c : (q : Int) < 4 := by have := HQ.out; omega
          have hq4 : q < 4 := by omega
          have HQ4 := Aside0.mk hq4
          obtain rfl := HA.out hq4
          obtain ⟨A', hA', hsl⟩ := slice_put g3 q c3 hq4 M6.out
          have HA' := Aside0.mk hA'
          clear hA' hq4 HA
          go_wp2_with (first
            | (go_at_call 57; go_must ((with_reducible refine (quarter_calls _ q HQ4.out _).mono ?_); rintro e w4 ⟨rfl, rfl⟩))
            | ((with_reducible refine gate_builtin (b := .copy) (xs := #[.tmp 38, .tmp 39]) rfl ?_); go_must (refine copyB rfl (.tmp 38) (.tmp 39) rfl w.heap.size (16 * q) 16 16 (some ⟨g0, 0, none⟩) 4 c0 rfl rfl (blkL n (allL n x) q) (bs n 4) 47 M1.out M3.out 4 rfl ?c2 ?_; (case c2 => rw [BL.out q (by have := HQ4.out; omega)]; have := HQ4.out; omega); intro w5 hm ht; rw [List.take_of_length_le (by rw [bs4_length]; exact Nat.le_refl _)] at hm; have N1 := Aside0.mk hm; have N2 := Aside0.mk (ht.below M2.out (Nat.le_refl _)); have N3 := Aside0.mk (C_turn M3.out ht (by have := M5.out; simp; omega)); have N4 := Aside0.mk (C_turn M4.out ht (by have := M5.out; simp; omega)); clear hm ht))
            | ((with_reducible refine gate_builtin (b := .copy) (xs := #[.tmp 41, .tmp 42]) rfl ?_); go_must (refine copyB rfl (.tmp 41) (.tmp 42) rfl w.heap.size (16 * q + 4) 12 12 (some ⟨g3, 12 * q, none⟩) (48 - 12 * q) (c3 - 12 * q) rfl rfl _ ((allL n x).drop (12 * q)) 47 N1.out (C_drop N4.out (12 * q) _ rfl (by have := HQ4.out; omega)) 12 ?c1 ?c2 ?_; (case c1 => have := HQ4.out; exact (Nat.min_eq_right (by omega)).symm); (case c2 => have := HQ4.out; rw [lay_length _ _ _ (by rw [bs4_length, BL.out q (by omega)]; omega), BL.out q (by omega)]; omega); intro w6 hm ht; have O1 := Aside0.mk hm; have O2 := Aside0.mk (ht.below N2.out (Nat.le_refl _)); have O3 := Aside0.mk (C_turn N3.out ht (by have := M5.out; simp; omega)); have O4 := Aside0.mk (C_turn N4.out ht (by have := M5.out; simp; omega)); clear hm ht)))
          go_roundg k1
          case measure => omega
          case rel => exact ⟨q + 1, A', ⟨by have := HQ.out; omega⟩, by go_num, rfl, ⟨fun h => HA'.out (by omega)⟩, O1, O3, O4, O2⟩
end Go.Proofs.Ytjenbffnpekbjaa.F
