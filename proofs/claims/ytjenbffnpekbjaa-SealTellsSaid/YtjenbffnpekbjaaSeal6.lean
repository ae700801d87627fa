/- seal.Get: the walk. -/
import Derived.Test.YtjenbffnpekbjaaSeal5
import Derived.Test.YtjenbffnpekbjaaWalkRises
import Derived.BigQuiet
namespace Go.Proofs.Ytjenbffnpekbjaa.F
open Go.RowKit Go.Proofs.YtjenbffnpekbjaaW.PrintWords Go.Proofs.YtjenbffnpekbjaaW.PrintLast Go.Proofs.YtjenbffnpekbjaaW.PrintMore
set_option linter.unusedVariables false
section
variable {P : Program} {ops : Array Oper} {rest : List Oper} {o : Oper} {a : Act} {Q : Exit → Act → World → Prop} {W : World}
theorem gate_gd {n : Nat} {b : Bool} (_hg : o.guard = some (n, b)) (h : wpList P ops Q (o :: rest) a W) : wpList P ops Q (o :: rest) a W := h
end
theorem str_eq (a b : List Int) (ha : Bytes a) (hb : Bytes b) : ((strOfNums a).toList == (strOfNums b).toList) = decide (a = b) := by
  rw [str_list, str_list, Bool.eq_iff_iff, beq_iff_eq, decide_eq_true_iff]
  constructor
  · intro h
    have hl : a.length = b.length := by simpa using congrArg List.length h
    apply List.ext_getElem hl
    intro i h1 h2
    have := congrArg (fun l => l[i]?) h
    simp only [List.getElem?_map, List.getElem?_eq_getElem h1, List.getElem?_eq_getElem h2, Option.map_some, Option.some.injEq] at this
    exact (byte_eq (ha _ (List.getElem_mem h1)) (hb _ (List.getElem_mem h2))).1 this
  · rintro rfl; rfl
/-- What the first q quarters hold behind their number. -/
def innerL (l : List Int) : Nat → List Int
  | 0 => []
  | q + 1 => innerL l q ++ (l.drop (16 * q + 4)).take 12
theorem innerL_length (l : List Int) (hl : l.length = 64) : ∀ q, q ≤ 4 → (innerL l q).length = 12 * q := by
  intro q
  induction q with
  | zero => intro _; rfl
  | succ q ih =>
    intro h
    rw [innerL, List.length_append, ih (by omega)]
    simp
    omega
theorem innerL_bytes (l : List Int) (h8 : Bytes l) : ∀ q, Bytes (innerL l q) := by
  intro q
  induction q with
  | zero => intro c hc; cases hc
  | succ q ih =>
    intro c hc
    rw [innerL, List.mem_append] at hc
    rcases hc with hc | hc
    · exact ih c hc
    · exact h8 c (List.mem_of_mem_drop (List.mem_of_mem_take hc))
/-- The quarters say one number, that is not 0. -/
def Whole (l : List Int) : Prop := tagL l 0 ≠ 0 ∧ ∀ q, q < 4 → tagL l q = tagL l 0
/-- The sum is right. -/
def Right (l : List Int) : Prop := bs (fnv (tagL l 0) ((innerL l 4).take 44)) 4 = (innerL l 4).drop 44
instance (l : List Int) : Decidable (Right l) := by unfold Right; infer_instance
/-- What Get tells of a block: by cases. -/
def GotPost (l : List Int) (w : World) (e : Ending) (w' : World) : Prop :=
  (¬ Whole l ∧ e = .returned (.tuple #[.int .u32 0, .slice none 0 0, .int .i64 5]))
  ∨ (Whole l ∧ ¬ Right l ∧ e = .returned (.tuple #[.int .u32 0, .slice none 0 0, .int .i64 6]))
  ∨ (Whole l ∧ Right l ∧ ∃ g cur, e = .returned (.tuple #[.int .u32 (tagL l 0), .slice (some ⟨g, 0, none⟩) 44 44, .int .i64 0]) ∧ w.heap.size ≤ g ∧ w'.heap[g]? = some (.cells cur 5 (0, 0)) ∧ cur.toList.take 44 = ((innerL l 4).take 44).map (Value.int .u8))
theorem C_drewN {w : World} {A : Option Addr} {n : Nat} {l : List Int} (h : Kd.C (Kd.int .u8) w A n l) (k : Nat) : Kd.C (Kd.int .u8) (w.drewN k) A n l :=
  Kd.C_of_reads (d := 0) (Kd.reads_of_C (d := (0 : Int)) h)
theorem C_take {w : World} {A : Option Addr} {n : Nat} {l : List Int} (h : Kd.C (Kd.int .u8) w A n l) (m : Nat) (hm : m ≤ n) : Kd.C (Kd.int .u8) w A m (l.take m) := by
  have hr := Kd.reads_of_C (d := (0 : Int)) h
  have hl : l.length = n := hr.1
  refine Kd.C_of_reads (d := 0) ⟨by simp; omega, by have := hr.2.1; omega, fun h0 => ?_⟩
  obtain ⟨ad, e, hc⟩ := hr.2.2 (by omega)
  refine ⟨ad, e, fun j hj => ?_⟩
  rw [hc j (by omega)]
  simp [List.getD_eq_getElem?_getD, hj]
theorem own_row {w : World} {base n c m : Nat} {g : Nat} {xs : List Int} (h : w.ownsRow base 5 1 (.slice (some ⟨g, 0, none⟩) n c) m (encs (Value.int .u8) xs)) : ∃ cur, w.heap[g]? = some (.cells cur 5 (0, 0)) ∧ cur.toList.take m = xs.map (Value.int .u8) := by
  rcases h.2 with ⟨e, _⟩ | ⟨g', cap, cur, e, _, hg, _, _, _, ht⟩
  · cases e
  · injection e with e1 e2 e3
    injection e1 with e1
    injection e1 with e1 e4 e5
    subst e1
    exact ⟨cur, hg, by rw [← encs, ← ht, Nat.mul_one]⟩
set_option maxHeartbeats 4000000 in
theorem getx_calls (l : List Int) (hl : l.length = 64) (h8 : Bytes l) (w : World) :
    Calls Try.prog 40 #[.agg (cellsOf l)] w fun e w' => GotPost l w e w' ∧ Below w.heap.size w w' := by
  have S := Aside0.mk (fun (W : World) (q : Nat) (hq : q < 4) => said_calls l q hl h8 hq W)
  have S0 := Aside0.mk (fun (W : World) => show Calls Try.prog 59 #[.agg (cellsOf l), .int .i64 0] W fun e w' => e = .returned (.int .u32 (tagL l 0)) ∧ Below W.heap.size W w' from said_calls l 0 hl h8 (by decide) W)
  have HL := Aside0.mk hl
  have H8 := Aside0.mk h8
  have HI := Aside0.mk (innerL_length l hl)
  have HI8 := Aside0.mk (innerL_bytes l h8 4)
  have HN := Aside0.mk (show U32 (tagL l 0) from tagL_range l h8 0)
  clear hl h8
  have HB := Aside0.mk (HasB.new w l _ rfl)
  have HW := Aside0.mk (below_alloc (Below.refl w.heap.size w) (.cells (cellsOf l) 47 (0, 0)))
  have HS := Aside0.mk (show (w.alloc (.cells (cellsOf l) 47 (0, 0))).heap.size = w.heap.size + 1 from World.size_alloc _ _)
  go_enter Try.func40, Try.ntmps40
  go_wp2_with (first
    | ((with_reducible refine gate_load47 rfl ?_); go_must (refine loadB rfl (.tmp 1) rfl w.heap.size rfl l HL.out HB.out ?_))
    | (go_at_call 59; go_must ((with_reducible refine (S0.out _).mono ?_); rintro e w1 ⟨rfl, hb⟩; have HB1 := Aside0.mk (HB.out.below hb); have HW1 := Aside0.mk (below_step HW.out hb); have HS1 := Aside0.mk (show w.heap.size + 1 ≤ w1.heap.size from by have := hb.size; have := HS.out; omega); clear hb)))
  clear HB HW HS
  go_loopg [2, 3, 11] 4 (fun kq v2 v3 v11 w' => ∃ q : Nat, Aside0 (q + kq = 4) ∧ v11 = .int .i64 q ∧ v2 = .int .u32 (tagL l 0) ∧ Aside0 (0 < q → tagL l 0 ≠ 0) ∧ Aside0 (∀ j, j < q → tagL l j = tagL l 0) ∧ Aside0 (w'.ownsRow (w.heap.size + 1) 5 1 v3 (innerL l q).length (encs (Value.int .u8) (innerL l q))) ∧ Aside0 (HasB w' w.heap.size l) ∧ Aside0 (Below w.heap.size w w') ∧ Aside0 (w.heap.size + 1 ≤ w'.heap.size))
  case atStart => exact ⟨0, ⟨rfl⟩, rfl, rfl, ⟨fun h => absurd h (by decide)⟩, ⟨fun j h => absurd h (by omega)⟩, ⟨own_nil _ _ _ _⟩, HB1, HW1, HS1⟩
  case round =>
    clear HB1 HW1 HS1
    obtain ⟨q, HQ, rfl, rfl, HT0, HT, HO, HB, HW, HS⟩ := hrel
    cases gk with
    | zero =>
      have e := HQ.out
      obtain rfl : q = 4 := by omega
      obtain ⟨g, c, e3, hg, hc, hC⟩ := own_at HO.out (HI.out 4 (Nat.le_refl _)) (by decide)
      subst e3
      have HG := Aside0.mk hg
      have HC := Aside0.mk hC
      have Hc := Aside0.mk hc
      have WH := Aside0.mk (show Whole l from ⟨HT0.out (by decide), HT.out⟩)
      have hs1 : ∀ W : World, (Instr.slice 23 (.slice (some ⟨g, 0, none⟩) 48 c) none (some (.int .i64 44)) (some (.int .i64 44))).run Try.prog W = .ok (.slice (some ⟨g, 0, none⟩) 44 44) W := by
        intro W
        rw [run_slice_hm W 23 _ 48 c Try.underlying23 .i64 .i64 44 44 (by decide) (by decide) (by omega)]
        have hs : (sizeOf (Try.prog.elem 23)).run Try.prog W = .ok 1 W := by kernel_rfl
        rw [hs]
        rfl
      have hs2 : ∀ W : World, (Instr.slice 23 (.slice (some ⟨g, 0, none⟩) 48 c) (some (.int .i64 44)) none none).run Try.prog W = .ok (.slice (some ⟨g, 44, none⟩) 4 (c - 44)) W := fun W => slice_lo g 0 48 c 44 (by omega) (by decide) W
      clear hg hC hc
      have HR := Aside0.mk (show ((strOfNums (bs (fnv (tagL l 0) ((innerL l 4).take 44)) 4)).toList == (strOfNums ((innerL l 4).drop 44)).toList) = decide (Right l) from str_eq _ _ (bs_bytes _ 4) (fun c hc => HI8.out c (List.mem_of_mem_drop hc)))
      have HCT := Aside0.mk (C_take HC.out 44 (by decide))
      have HCD := Aside0.mk (C_drop HC.out 44 4 (by decide) (by decide))
      have HLT := Aside0.mk (show ((innerL l 4).take 44).length = 44 by have := HI.out 4 (Nat.le_refl _); simp; omega)
      go_wp2
      go_quiet (fail)
      by_cases hR : Right l
      · have hE := HR.out
        rw [decide_eq_true hR] at hE
        have HRR := Aside0.mk hR
        clear hR HR
        go_wp2_with (first
          | (go_at_call 56; go_must ((with_reducible refine (sealed_at (tagL l 0) _ 44 44 ((innerL l 4).take 44) _ HN.out HLT.out (by decide) (C_drewN HCT.out nq) (by decide)).mono ?_); rintro e w5 ⟨g0, c0, g1, c2, rfl, hg0, hg1, hc0, hc2, hC0, hC1, hb⟩; have hcv1 := Kd.C_string (P := Try.prog) (c := c2) Try.underlying23 Try.underlying5 Try.underlying9 hC1; have hcv2 := Kd.C_string (P := Try.prog) (c := c - 44) Try.underlying23 Try.underlying5 Try.underlying9 (show Kd.C (Kd.int .u8) w5 (some ⟨g, 44, none⟩) 4 ((innerL l 4).drop 44) from Kd.C_below (C_drewN HCD.out nq) hb); have Z1 := Aside0.mk (below_step (pw_below_drewN HW.out nq) hb); have Z2 := Aside0.mk (pw_own_below (pw_own_drewN HO.out nq) hb); clear hg0 hg1 hc0 hc2 hC0 hC1 hb)))
        go_ret3
        obtain ⟨cur, hcur, hct⟩ := own_row Z2.out
        refine ⟨.inr (.inr ⟨WH.out, HRR.out, g, cur, rfl, by have := HG.out; omega, hcur, ?_⟩), Z1.out⟩
        rw [HI.out 4 (Nat.le_refl _)] at hct
        rw [List.map_take, ← hct, List.take_take]
        rfl
      · have hE := HR.out
        rw [decide_eq_false hR] at hE
        have HRR := Aside0.mk hR
        clear hR HR
        go_wp2_with (first
          | (go_at_call 56; go_must ((with_reducible refine (sealed_at (tagL l 0) _ 44 44 ((innerL l 4).take 44) _ HN.out HLT.out (by decide) (C_drewN HCT.out nq) (by decide)).mono ?_); rintro e w5 ⟨g0, c0, g1, c2, rfl, hg0, hg1, hc0, hc2, hC0, hC1, hb⟩; have hcv1 := Kd.C_string (P := Try.prog) (c := c2) Try.underlying23 Try.underlying5 Try.underlying9 hC1; have hcv2 := Kd.C_string (P := Try.prog) (c := c - 44) Try.underlying23 Try.underlying5 Try.underlying9 (show Kd.C (Kd.int .u8) w5 (some ⟨g, 44, none⟩) 4 ((innerL l 4).drop 44) from Kd.C_below (C_drewN HCD.out nq) hb); have Z1 := Aside0.mk (below_step (pw_below_drewN HW.out nq) hb); clear hg0 hg1 hc0 hc2 hC0 hC1 hb)))
        go_ret3
        exact ⟨.inr (.inl ⟨WH.out, HRR.out, rfl⟩), Z1.out⟩
    | succ k1 =>
      have c : (q : Int) < 4 := by have := HQ.out; omega
      have HQ4 := Aside0.mk (show q < 4 by have := HQ.out; omega)
      by_cases h0 : tagL l 0 = 0
      · go_wp2_with (first
          | ((with_reducible refine gate_gd rfl ?_); refine skip_guard (by rfl) ?_))
        go_ret3
        exact ⟨.inl ⟨fun h => h.1 h0, rfl⟩, HW.out⟩
      · have hb0 : (tagL l 0 == 0) = false := by simpa using h0
        by_cases h1 : tagL l q = tagL l 0
        · have hb1 : (tagL l q == tagL l 0) = true := by simpa using h1
          have H1 := Aside0.mk h1
          have H0 := Aside0.mk h0
          go_wp2_with (first
            | ((with_reducible refine gate_load47 rfl ?_); (try (refine gate_guard (by rfl) ?_; dsimp only)); go_must (refine loadB rfl (.tmp 1) rfl w.heap.size rfl l HL.out HB.out ?_))
            | (go_at_call 59; go_must ((with_reducible refine (S.out _ q HQ4.out).mono ?_); rintro e w2 ⟨rfl, hb⟩; have HW2 := Aside0.mk (below_step HW.out hb); have HB2 := Aside0.mk (HB.out.below hb); have HO2 := Aside0.mk (pw_own_below HO.out hb); have HS2 := Aside0.mk (Nat.le_trans HS.out hb.size); clear hb))
            | (go_at_call 57; go_must ((with_reducible refine (quarter_calls _ q HQ4.out _).mono ?_); rintro e w3 ⟨rfl, rfl⟩))
            | ((with_reducible refine gate_builtin (b := .append) (xs := #[.tmp 23, .tmp 26]) rfl ?_); at_builtin; go_must (refine print_append_row_of (w0 := w2) (Value.int .u8) (0 : Int) (w.heap.size + 1) rfl (.tmp 23) (.tmp 26) 23 5 (.int .u8 0) 1 rfl Try.underlying23 info5 rfl (by decide) (fun _ => rfl) _ (innerL l q) ((l.drop (16 * q + 4)).take 12) _ _ _ rfl rfl ?o1 ?r1 ?b1 ?s1 ?l1 ?_; (case o1 => exact HO2.out); (case r1 => (have := HB2.out.C (16 * q + 4) 12 (by have := HQ4.out; have := HL.out; omega) (by rw [HL.out]; decide)); rw [show ((l.drop (16 * q + 4)).take 12).length = 12 by have := HQ4.out; have := HL.out; simp; omega] at this; exact Kd.reads_of_C this); (case b1 => exact Below.refl _ _); (case s1 => exact HS2.out); (case l1 => rw [HI.out q (by have := HQ4.out; omega)]; have := HQ4.out; omega); intro v3 w4 ho hB hg hat; have P1 := Aside0.mk ho; have P2 := Aside0.mk (show HasB w4 w.heap.size l from (hB.block w.heap.size (by omega)).trans HB2.out); have P3 := Aside0.mk (show Below w.heap.size w w4 from HW2.out.trans ⟨hB.os, hB.tape, hB.output, hB.size, fun k hk => hB.block k (by omega)⟩); have P4 := Aside0.mk (Nat.le_trans HS2.out hB.size); clear ho hB hg hat)))
          go_roundg k1
          case measure => omega
          case rel => exact ⟨q + 1, ⟨by have := HQ.out; omega⟩, by go_num, rfl, ⟨fun _ => H0.out⟩, ⟨fun j hj => by rcases Nat.lt_or_ge j q with h | h; exact HT.out j h; rw [show j = q by omega]; exact H1.out⟩, P1, P2, P3, P4⟩
        · have hb1 : (tagL l q == tagL l 0) = false := by simpa using h1
          have HNE := Aside0.mk h1
          go_wp2_with (first
            | ((with_reducible refine gate_load47 rfl ?_); (try (refine gate_guard (by rfl) ?_; dsimp only)); go_must (refine loadB rfl (.tmp 1) rfl w.heap.size rfl l HL.out HB.out ?_))
            | (go_at_call 59; go_must ((with_reducible refine (S.out _ q HQ4.out).mono ?_); rintro e w2 ⟨rfl, hb⟩; have HW2 := Aside0.mk (below_step HW.out hb); clear hb)))
          go_ret3
          exact ⟨.inl ⟨fun h => HNE.out (h.2 q HQ4.out), rfl⟩, HW2.out⟩
end Go.Proofs.Ytjenbffnpekbjaa.F
