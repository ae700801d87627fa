/- Quarters of a block, and the number that a quarter says. -/
import Derived.Test.YtjenbffnpekbjaaLives01
namespace Go.Proofs.Ytjenbffnpekbjaa.F
open Go.RowKit Go.Proofs.YtjenbffnpekbjaaW.PrintWords Go.Proofs.YtjenbffnpekbjaaW.PrintLast Go.Proofs.YtjenbffnpekbjaaW.PrintMore
set_option linter.unusedVariables false
theorem und47 : Try.prog.underlying 47 = some (.array (Try.prog.arrayLen 47) (Try.prog.elem 47)) := by kernel_rfl
theorem len47 : Try.prog.arrayLen 47 = 64 := by kernel_rfl
theorem size47 (w : World) : (sizeOf (Try.prog.elem 47)).run Try.prog w = .ok 1 w := by kernel_rfl
theorem slice47 (g lo hi mx : Nat) (h1 : lo ≤ hi) (h2 : hi ≤ mx) (h3 : mx ≤ 64) (h4 : lo < mx) (w : World) :
    (Instr.sliceAt 47 (.pointer (some ⟨g, 0, none⟩)) (some (.int .i64 lo)) (some (.int .i64 hi)) (some (.int .i64 mx))).run Try.prog w = .ok (.slice (some ⟨g, lo, none⟩) (hi - lo) (mx - lo)) w := by
  rw [run_sliceAt_array_lhm w 47 ⟨g, 0, none⟩ und47 .i64 .i64 .i64 lo hi mx (by omega) (by omega) (by omega) (by rw [len47]; omega), size47]
  simp only [Result.andThen, slicedAt, Int.toNat_natCast]
  rw [if_neg (by omega), add_plain]
  simp
theorem slice47_lh (g lo hi : Nat) (h1 : lo ≤ hi) (h2 : hi ≤ 64) (h4 : lo < 64) (w : World) :
    (Instr.sliceAt 47 (.pointer (some ⟨g, 0, none⟩)) (some (.int .i64 lo)) (some (.int .i64 hi)) none).run Try.prog w = .ok (.slice (some ⟨g, lo, none⟩) (hi - lo) (64 - lo)) w := by
  rw [run_sliceAt_array_lh w 47 ⟨g, 0, none⟩ und47 .i64 .i64 lo hi (by omega) (by omega) (by rw [len47]; omega), size47]
  simp only [Result.andThen, slicedAt, Int.toNat_natCast, len47]
  rw [if_neg (by omega), add_plain]
  simp
theorem slice47_all (g : Nat) (w : World) : (Instr.sliceAt 47 (.pointer (some ⟨g, 0, none⟩)) none none none).run Try.prog w = .ok (.slice (some ⟨g, 0, none⟩) 64 64) w := by
  rw [run_sliceAt_array_all w 47 ⟨g, 0, none⟩ und47, size47]
  simp only [Result.andThen, slicedAt, len47]
  rw [if_neg (by omega), add_plain]
set_option maxHeartbeats 400000 in
theorem quarter_calls (g q : Nat) (hq : q < 4) (w : World) :
    Calls Try.prog 57 #[.pointer (some ⟨g, 0, none⟩), .int .i64 q] w fun e w' => e = .returned (.slice (some ⟨g, 16 * q, none⟩) 16 16) ∧ w = w' := by
  have hsl : ∀ W, (Instr.sliceAt 47 (.pointer (some ⟨g, 0, none⟩)) (some (.int .i64 ((q : Int) * 16))) (some (.int .i64 (((q : Int) + 1) * 16))) (some (.int .i64 (((q : Int) + 1) * 16)))).run Try.prog W = .ok (.slice (some ⟨g, 16 * q, none⟩) 16 16) W := by
    intro W
    have h := slice47 g (16 * q) (16 * q + 16) (16 * q + 16) (by omega) (by omega) (by omega) (by omega) W
    rw [show ((16 * q : Nat) : Int) = (q : Int) * 16 by omega, show ((16 * q + 16 : Nat) : Int) = ((q : Int) + 1) * 16 by omega, show 16 * q + 16 - 16 * q = 16 by omega] at h
    exact h
  go_enter Try.func57, Try.ntmps57
  go_wp2
  go_ret
  exact ⟨rfl, rfl⟩

/-- A block in memory. -/
def HasB (w : World) (g : Nat) (l : List Int) : Prop := w.heap[g]? = some (.cells (cellsOf l) 47 (0, 0))
theorem HasB.below {w w1 : World} {g : Nat} {l : List Int} (h : HasB w g l) (hb : Below w.heap.size w w1) : HasB w1 g l := blk_below h hb
theorem HasB.new (w : World) (l : List Int) (g : Nat) (hg : g = w.heap.size) : HasB (w.alloc (.cells (cellsOf l) 47 (0, 0))) g l := by subst hg; exact heap_alloc_new w _
theorem HasB.alloc {w : World} {g : Nat} {l : List Int} (h : HasB w g l) (o : Obj) : HasB (w.alloc o) g l := blk_alloc h o
theorem HasB.drewN {w : World} {g : Nat} {l : List Int} (h : HasB w g l) (n : Nat) : HasB (w.drewN n) g l := blk_drewN h n
theorem cellsOf_at (l : List Int) (j : Nat) (h : j < l.length) : (cellsOf l)[j]? = some (.int .u8 l[j]) := by simp [cellsOf, h]
/-- A part of a block, as a slice. -/
theorem HasB.C {w : World} {g : Nat} {l : List Int} (h : HasB w g l) (lo n : Nat) (hn : lo + n ≤ l.length) (hl : l.length ≤ 9223372036854775807) : Kd.C (Kd.int .u8) w (some ⟨g, lo, none⟩) ((l.drop lo).take n).length ((l.drop lo).take n) := by
  have hlen : ((l.drop lo).take n).length = n := by simp; omega
  refine Kd.C_of_reads (d := 0) ⟨rfl, by omega, fun _ => ⟨_, rfl, fun j hj => ?_⟩⟩
  have hj' : j < n := by omega
  rw [Go.WideShapes.add_plain]
  refine (cell_of_row w g (lo + j) _ 47 (0, 0) h).trans ?_
  rw [cellsOf_at l (lo + j) (by omega)]
  simp [List.getD_eq_getElem?_getD, hj', show lo + j < l.length by omega]

/-- The number at the beginning of a quarter. -/
def tagL (l : List Int) (q : Nat) : Int := be ((l.drop (16 * q)).take 4)
def Bytes (l : List Int) : Prop := ∀ c ∈ l, 0 ≤ c ∧ c < 256
theorem tagL_range (l : List Int) (h : Bytes l) (q : Nat) : 0 ≤ tagL l q ∧ tagL l q < 4294967296 := by
  have hb := be_range ((l.drop (16 * q)).take 4) (fun c hc => h c (List.mem_of_mem_drop (List.mem_of_mem_take hc)))
  have hle : (256 : Int) ^ ((l.drop (16 * q)).take 4).length ≤ 4294967296 := by
    have h4 : 256 ^ ((l.drop (16 * q)).take 4).length ≤ 256 ^ 4 := Nat.pow_le_pow_right (by omega) (by simp; omega)
    have h5 : ((256 ^ ((l.drop (16 * q)).take 4).length : Nat) : Int) = (256 : Int) ^ ((l.drop (16 * q)).take 4).length := by simp
    omega
  unfold tagL
  omega
set_option maxHeartbeats 1000000 in
theorem said_calls (l : List Int) (q : Nat) (hl : l.length = 64) (h8 : Bytes l) (hq : q < 4) (w : World) :
    Calls Try.prog 59 #[.agg (cellsOf l), .int .i64 q] w fun e w' => e = .returned (.int .u32 (tagL l q)) ∧ Below w.heap.size w w' := by
  obtain ⟨t, ht⟩ : ∃ t, tagL l q = t := ⟨_, rfl⟩
  have htr := tagL_range l h8 q
  rw [ht] at htr ⊢
  obtain ⟨ht1, ht2⟩ := htr
  have hw : t % 4294967296 = t := by omega
  have hlen : ((l.drop (16 * q)).take 16).length = 16 := by simp; omega
  have G := Aside0.mk (fun (W : World) (g : Nat) (h : HasB W g l) => get_at (some ⟨g, 16 * q, none⟩) 16 ((l.drop (16 * q)).take 16) 0 4 t 0 W (h.C (16 * q) 16 (by omega) (by omega)) (by omega) (by omega) (fun c hc => h8 c (List.mem_of_mem_drop (List.mem_of_mem_take hc))) i64_0 (by unfold I64; omega)
    (by unfold getR; rw [hlen, if_neg (by decide), if_neg (by omega), ← ht]; simp [tagL, List.take_take]))
  rw [hlen] at G
  have HN := Aside0.mk (HasB.new w l w.heap.size rfl)
  have HQ := Aside0.mk hq
  clear hlen ht hl h8 hq
  go_enter Try.func59, Try.ntmps59
  go_wp2_with (first
    | (go_at_call 57; ((with_reducible refine (quarter_calls _ _ HQ.out _).mono ?_); rintro e w1 ⟨rfl, rfl⟩))
    | (go_at_call 28; ((with_reducible refine (G.out _ _ HN.out).mono ?_); rintro e w2 ⟨rfl, hb⟩; have HB := Aside0.mk (below_step (below_alloc (Below.refl _ _) _) hb); clear hb)))
  go_ret
  exact ⟨by first | rfl | (simp [hw]; done), HB.out⟩
end Go.Proofs.Ytjenbffnpekbjaa.F
