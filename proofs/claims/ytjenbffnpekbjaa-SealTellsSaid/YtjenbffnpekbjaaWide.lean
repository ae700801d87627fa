/- Contracts of the statements' own Wide and Left. -/
import Derived.Test.YtjenbffnpekbjaaFs0
namespace Go.Proofs.Ytjenbffnpekbjaa.F
open Go.RowKit Go.Proofs.YtjenbffnpekbjaaW.PrintWords Go.Proofs.YtjenbffnpekbjaaW.PrintLast Go.Proofs.YtjenbffnpekbjaaW.PrintMore
attribute [local go_sem] max2_int min2_int max_two min_two max_three min_three max_four min_four
set_option linter.unusedVariables false
set_option linter.unusedSimpArgs false

/-! ### Wide: function 14: the same bytes, with three 9s in the room behind them -/
def WidePost (w : World) (l : List Int) (e : Ending) (w' : World) : Prop :=
  ∃ g cap, e = .returned (.slice (some ⟨g, 0, none⟩) l.length cap) ∧ Kd.R (Kd.int .u8) 5 w' w.heap.size (fun _ => True) (.slice (some ⟨g, 0, none⟩) (l ++ [9, 9, 9]).length cap) (l ++ [9, 9, 9]) ∧ Below w.heap.size w w'
theorem copy_eq (l : List Int) (hl : l.length < 140737488355328) : wharfageref00_Copy.f l = some l := by
  simp only [wharfageref00_Copy.f, List.nil_append, List.length_nil, Nat.zero_add]
  rw [if_pos hl]
set_option maxHeartbeats 8000000 in
set_option maxRecDepth 100000 in
theorem wide_calls (A0 : Option Addr) (c0 : Nat) (l0 : List Int) (w : World) (hr0 : Kd.C (Kd.int .u8) w A0 l0.length l0) (hc0 : l0.length ≤ c0) (hl : l0.length + 3 < 140737488355328) :
    Calls Try.prog 14 #[.slice A0 l0.length c0] w (WidePost w l0) := by
  have HR0 := Aside0.mk hr0
  have HC0 := Aside0.mk hc0
  clear hr0 hc0
  have HB := Aside0.mk (Below.refl w.heap.size w)
  obtain ⟨t104, ht⟩ : ∃ t, t = l0 := ⟨_, rfl⟩
  have A2 := Aside0.mk (show wharfageref00_Copy.f l0 = some t104 by rw [ht]; exact copy_eq l0 (by omega))
  have Ny104 := Aside0.mk ht
  clear ht
  obtain ⟨y107, hy107⟩ : ∃ y_ : List Int, y_ = (([9, 9, 9] : List Int)) := ⟨_, rfl⟩
  have Ny107 := Aside0.mk hy107
  clear hy107
  have LMc3 := Aside0.mk (show t104.length + y107.length < 140737488355328 by rw [Ny104.out, Ny107.out]; simpa using hl)
  obtain ⟨y110, hy110⟩ : ∃ y_ : List Int, y_ = (t104 ++ y107) := ⟨_, rfl⟩
  have Ny110 := Aside0.mk hy110
  clear hy110
  have c4b0 := eq_true (show 0 ≤ (l0.length : Int) by omega)
  have c4b1 : decide (0 ≤ (l0.length : Int)) = true := decide_eq_true (by omega)
  clear hl
  go_enter Try.func14, Try.ntmps14
  go_wp2_with (first | ((with_reducible refine gate_callee (f := 25) rfl ?_); refine goesL_ (some 5) rfl rfl Try.func25 (by kernel_rfl) rfl #[.slice A0 l0.length c0] rfl (by (try simp only [List.map_toArray, List.map_cons, List.map_nil]); first | done | rfl | (simp only [List.length_drop, List.length_take]; rfl)) ?_; (with_reducible refine (wharfageref00_Copy.calls _ _ l0 t104 _ ?side1 ?side2 A2.out).mono ?_); (case side1 => repeat (first | exact HR0.out | (with_reducible refine Kd.C_alloc ?_ _) | (with_reducible refine Kd.C_drewN ?_ _) | (with_reducible refine Kd.C_drew ?_))); (case side2 => exact HC0.out); rintro e w6 ⟨v105, rfl, ho0, hb⟩; refine ⟨_, rfl, ?_⟩; have n0_ := Aside0.mk (Kd.R_lower ho0 (below_size (by repeat (first | (with_reducible first | exact HB.out | apply below_alloc | apply pw_below_drewN | apply below_drew1) | exact HB.out)))); have n1_ := Aside0.mk (below_step (by repeat (first | (with_reducible first | exact HB.out | apply below_alloc | apply pw_below_drewN | apply below_drew1) | exact HB.out)) hb); clear HB; have HO106 := n0_; have HB := n1_; clear n0_ n1_; (try clear hb); (try clear hb2); (try clear hk); (try clear hi); (try clear ho0)) | ((with_reducible refine gate_dst (N := 7) rfl ?_); refine Kd.R_lit (Kd.int .u8) _ 5 ?hg (N := 7) ?hd (xs := ([9, 9, 9] : List Int)) (inner := [.int .u8 9, .int .u8 9, .int .u8 9]) (ok := fun _ => True) (okp := fun _ => True) ?hr ?hp (fun _ hk => hk) trivial (Below.refl _ _) (Nat.le_refl _) (by simp) ?_; (case hd => rfl); (case hg => rfl); (case hr => first | (go_simp; done) | (go_simp; rfl)); (case hp => exact (Reps.one (show Kd.M (Kd.int .u8) _ _ _ 9 [.int .u8 9] from rfl) (Reps.one (show Kd.M (Kd.int .u8) _ _ _ 9 [.int .u8 9] from rfl) (Reps.one (show Kd.M (Kd.int .u8) _ _ _ 9 [.int .u8 9] from rfl) (Reps.none _ _))))); intro v108 w7 ho8 hb hg_ hnew_; clear hg_ hnew_; (first | rw [← Ny107.out] at ho8 | (simp only [Int.reduceToNat] at ho8; rw [← Ny107.out] at ho8)); have n0_ := Aside0.mk (Kd.R_elder' (by (with_reducible repeat (first | apply Kd.R_alloc | apply Kd.R_drewN | apply Kd.R_drew)); exact HO106.out) (Kd.R_base ho8) hb); have n1_ := Aside0.mk (Kd.R_lower (Kd.R_new' ho8 (Kd.R_lt (by (with_reducible repeat (first | apply Kd.R_alloc | apply Kd.R_drewN | apply Kd.R_drew)); exact HO106.out))) (below_size (by repeat (first | (with_reducible first | exact HB.out | apply below_alloc | apply pw_below_drewN | apply below_drew1) | exact HB.out)))); have n2_ := Aside0.mk (below_step (by repeat (first | (with_reducible first | exact HB.out | apply below_alloc | apply pw_below_drewN | apply below_drew1) | exact HB.out)) hb); clear HO106; clear HB; have HO106 := n0_; have HO109 := n1_; have HB := n2_; clear n0_ n1_ n2_; clear hb ho8; obtain ⟨Ao10, co10, eo10⟩ := Kd.R_slice HO109.out; subst eo10) | ((with_reducible refine gate_builtin (b := .append) (xs := #[.tmp 6, .tmp 7]) rfl ?_); at_builtin; refine Kd.R_append_rows (Kd.int .u8) (w0 := w) w.heap.size rfl (.tmp 6) (.tmp 7) 23 5 (.int .u8 0) 1 rfl Try.underlying23 info5 rfl (by decide) (by omega) v105 t104 y107 _ _ _ (fun k_ => some k_ ≠ (.slice Ao10 y107.length co10 : Value).ownBlock) (fun _ => False) rfl rfl ?aO ?aR (fun _ _ h => h) (fun _ h => h.elim) ?aF ?aB ?aS ?aL ?_; (case aR => repeat (first | exact (Kd.R_reads' HO109.out).2.2 | (with_reducible refine Kd.C_alloc ?_ _) | (with_reducible refine Kd.C_drewN ?_ _) | (with_reducible refine Kd.C_drew ?_))); (case aB => exact (by repeat (first | (with_reducible first | exact HB.out | apply below_alloc | apply pw_below_drewN | apply below_drew1) | exact HB.out))); (case aF => exact (fun k_ hk => Kd.fresh' (Kd.R_lt (by (with_reducible repeat (first | apply Kd.R_alloc | apply Kd.R_drewN | apply Kd.R_drew)); exact HO109.out)) k_ hk)); (case aO => exact (by (with_reducible repeat (first | apply Kd.R_alloc | apply Kd.R_drewN | apply Kd.R_drew)); exact Kd.R_mono HO106.out (fun _ hk => hk.2))); (case aS => exact (below_size (by repeat (first | (with_reducible first | exact HB.out | apply below_alloc | apply pw_below_drewN | apply below_drew1) | exact HB.out)))); (case aL => have := LMc3.out; omega); intro v111 w9 ho hb hg hat; rw [← Ny110.out] at ho; have n0_ := Aside0.mk (Kd.R_after (ok := (fun _ => True)) (by (with_reducible repeat (first | apply Kd.R_alloc | apply Kd.R_drewN | apply Kd.R_drew)); exact HO109.out) hg hat); have n1_ := Aside0.mk (hb); have n2_ := Aside0.mk (ho); clear HO109; clear HB; clear HO106; have HO109 := n0_; have HB := n1_; have HO112 := n2_; clear n0_ n1_ n2_; clear ho hb hg hat; have hn11 : y110.length = l0.length + 3 := (by rw [Ny110.out, List.length_append, Ny104.out, Ny107.out]; rfl); obtain ⟨g11, co11, eo11, _, _⟩ := (Kd.own_of_R HO112.out).form (by omega); subst eo11; have q12 : ((l0.length : Int) : Int) ≤ ((y110.length : Int) : Int) := (by omega); obtain ⟨i012, hi012, _, hsz12, _⟩ := info_parts info5; have hcut12 := cut_to (P := Try.prog) 23 5 .i64 Try.underlying23 hi012 (some ⟨g11, 0, none⟩) y110.length co11 (l0.length : Int) (by omega) q12 (Kd.R_reads' HO112.out).2.1; have HO115 := Aside0.mk HO112.out; have HN := Aside0.mk hn11; clear hn11 hi012 hsz12 HO112; replace q12 := eq_true q12; rw [Int.toNat_natCast] at hcut12))
  go_ret
  refine ⟨g11, co11, rfl, ?_, by repeat (first | (with_reducible first | exact HB.out | apply below_alloc | apply pw_below_drewN | apply below_drew1) | exact HB.out)⟩
  have h1 := HO115.out
  rw [Ny110.out, Ny104.out, Ny107.out] at h1
  exact Kd.R_mono h1 (fun _ _ => trivial)

/-! ### Left: function 23, of what Wide made -/
theorem same_refl (l : List Int) : wharfageref00_Same.f l l = some true := by simp [wharfageref00_Same.f]
theorem cell_of_C {w : World} {ad : Addr} {n : Nat} {l : List Int} (h : Kd.C (Kd.int .u8) w (some ad) n l) (i : Nat) (hi : i < n) : w.cell? (ad.add i) = some (.int .u8 (l.getD i 0)) := by
  obtain ⟨ad', e, hc⟩ := (Kd.reads_of_C (d := (0 : Int)) h).2.2 (by omega)
  injection e with e
  subst e
  exact hc i hi
theorem take_C {w : World} {ad : Addr} {l : List Int} (h : Kd.C (Kd.int .u8) w (some ad) (l ++ [9, 9, 9]).length (l ++ [9, 9, 9])) : Kd.C (Kd.int .u8) w (some ad) l.length l := by
  have := Kd.C_take (m := l.length) h (by simp)
  simpa using this
theorem same_refl_calls (A0 : Option Addr) (c0 : Nat) (A1 : Option Addr) (c1 n : Nat) (l : List Int) (w : World) (hn : l.length = n) (h0 : Kd.C (Kd.int .u8) w A0 n l) (hc0 : n ≤ c0) (h1 : Kd.C (Kd.int .u8) w A1 n l) (hc1 : n ≤ c1) :
    Calls Try.prog 32 #[.slice A0 n c0, .slice A1 n c1] w fun e w' => e = .returned (.bool true) ∧ Drawn0 w w' := by
  subst hn
  exact wharfageref00_Same.calls _ _ l _ _ l true _ h0 hc0 h1 hc1 (same_refl l)
set_option maxHeartbeats 1000000 in
theorem left_calls (g cap : Nat) (l : List Int) (A1 : Option Addr) (c1 : Nat) (w : World) (h0 : Kd.C (Kd.int .u8) w (some ⟨g, 0, none⟩) (l ++ [9, 9, 9]).length (l ++ [9, 9, 9])) (hcap : (l ++ [9, 9, 9]).length ≤ cap)
    (h1 : Kd.C (Kd.int .u8) w A1 l.length l) (hc1 : l.length ≤ c1) (hl : l.length + 3 < 140737488355328) :
    Calls Try.prog 23 #[.slice (some ⟨g, 0, none⟩) l.length cap, .slice A1 l.length c1] w fun e w' => e = .returned (.bool true) ∧ Drawn0 w w' := by
  have hc3 : l.length + 3 ≤ cap := by simpa using hcap
  have HS := Aside0.mk (take_C h0)
  have HR := Aside0.mk h1
  have HC := Aside0.mk hc1
  have e0 : w.cell? ⟨g, l.length, none⟩ = some (.int .u8 9) := by
    have := cell_of_C h0 l.length (by simp)
    rw [add_plain] at this
    simpa [List.getD_eq_getElem?_getD] using this
  have e1 : w.cell? ⟨g, l.length + 1, none⟩ = some (.int .u8 9) := by
    have := cell_of_C h0 (l.length + 1) (by simp)
    rw [add_plain] at this
    simpa [List.getD_eq_getElem?_getD, List.getElem?_append_right] using this
  have e2 : w.cell? ⟨g, l.length + 2, none⟩ = some (.int .u8 9) := by
    have := cell_of_C h0 (l.length + 2) (by simp)
    rw [add_plain] at this
    simpa [List.getD_eq_getElem?_getD, List.getElem?_append_right] using this
  clear h0 h1 hc1 hcap
  generalize hn : l.length = n at *
  have HN := Aside0.mk hn
  clear hn
  go_enter Try.func23, Try.ntmps23
  go_wp2_with (go_at_call 32; (with_reducible refine (same_refl_calls _ _ _ _ _ l _ HN.out HS.out (by omega) HR.out HC.out).mono ?_); rintro e w' ⟨rfl, ⟨nd, rfl⟩⟩)
  go_ret
  exact ⟨rfl, ⟨⟨_, rfl⟩⟩⟩


end Go.Proofs.Ytjenbffnpekbjaa.F
