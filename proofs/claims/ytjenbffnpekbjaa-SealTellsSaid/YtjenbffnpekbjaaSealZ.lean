/- The reference's Put, Get, Greatest, Mix over blocks; Spoil; SealTells' walk; a block that comes in. -/
import Derived.Test.YtjenbffnpekbjaaSeal8
import Derived.Test.YtjenbffnpekbjaaTells03
import Derived.BigQuiet
import Derived.Deep.RegionHeld3
import Derived.Deep.LoopGhost
import Derived.OpenShut
namespace Go.Proofs.Ytjenbffnpekbjaa.F
open Go.RowKit Go.Proofs.YtjenbffnpekbjaaW.PrintWords Go.Proofs.YtjenbffnpekbjaaW.PrintLast Go.Proofs.YtjenbffnpekbjaaW.PrintMore
set_option linter.unusedVariables false
theorem getR_tag (l : List Int) (q : Nat) (hl : l.length = 64) (hq : q < 4) : getR l (16 * (q : Int)) 4 = (tagL l q, 0) := by
  unfold getR
  rw [if_neg (by unfold IsSz; omega), if_neg (by rw [hl]; omega)]
  have e1 : (16 * (q : Int)).toNat = 16 * q := by omega
  rw [e1]
  rfl
theorem rget_at (A0 : Option Addr) (c0 m : Nat) (l : List Int) (a n r1 r2 : Int) (w : World) (hm : l.length = m) (hr : Kd.C (Kd.int .u8) w A0 m l) (hc0 : m ≤ c0) (hl : m ≤ 140737488351232) (h8 : Bytes l) (ha : I64 a) (hn : I64 n) (h : getR l a n = (r1, r2)) :
    Calls Try.prog 29 #[.slice A0 m c0, .int .i64 a, .int .i64 n] w fun e w' => e = .returned (.tuple #[.int .u64 r1, .int .i64 r2]) ∧ Below w.heap.size w w' := by
  subst hm
  exact (wharfageref01_Get.calls 12 A0 c0 l a n r1 r2 w hr hc0 ((ref_get_eq l a n (by omega) h8 ha hn).trans (by rw [h]))).mono (fun e w' ⟨h, n, hw⟩ => ⟨h, hw ▸ pw_below_drewN (Below.refl _ _) n⟩)
set_option maxHeartbeats 1000000 in
theorem tag_calls (l : List Int) (q : Nat) (hl : l.length = 64) (h8 : Bytes l) (hq : q < 4) (w : World) :
    Calls Try.prog 60 #[.agg (cellsOf l), .int .i64 q] w fun e w' => e = .returned (.int .u32 (tagL l q)) ∧ Below w.heap.size w w' := by
  have htr := tagL_range l h8 q
  have hw : tagL l q % 4294967296 = tagL l q := by omega
  have HB := Aside0.mk (HasB.new w l _ rfl)
  have HW := Aside0.mk (below_alloc (Below.refl w.heap.size w) (.cells (cellsOf l) 47 (0, 0)))
  have G := Aside0.mk (fun (W : World) (h : Kd.C (Kd.int .u8) W (some ⟨w.heap.size, 0, none⟩) 64 l) => rget_at (some ⟨w.heap.size, 0, none⟩) 64 64 l (16 * (q : Int)) 4 _ _ W hl h (Nat.le_refl _) (by decide) h8 (by unfold I64; omega) (by unfold I64; omega) (getR_tag l q hl hq))
  have HC := Aside0.mk (show Kd.C (Kd.int .u8) (w.alloc (.cells (cellsOf l) 47 (0, 0))) (some ⟨w.heap.size, 0, none⟩) 64 l by
    have h := HB.out.C 0 64 (by omega) (by rw [hl]; decide)
    rw [List.drop_zero, List.take_of_length_le (by omega), hl] at h
    exact h)
  have hsl := fun W => slice47_all w.heap.size W
  have hq' : (q : Int) < 4 := by omega
  clear htr hl h8 hq
  go_enter Try.func60, Try.ntmps60
  go_wp2_with (first
    | (go_at_call 29; go_must ((with_reducible refine (G.out _ HC.out).mono ?_); rintro e w1 ⟨rfl, hb⟩; have HW1 := Aside0.mk (below_step HW.out hb); clear hb)))
  go_ret
  exact ⟨by first | rfl | (simp [hw]; done), HW1.out⟩
end Go.Proofs.Ytjenbffnpekbjaa.F
namespace Go.Proofs.Ytjenbffnpekbjaa.F
open Go.RowKit Go.Proofs.YtjenbffnpekbjaaW.PrintWords Go.Proofs.YtjenbffnpekbjaaW.PrintLast Go.Proofs.YtjenbffnpekbjaaW.PrintMore
set_option linter.unusedVariables false
set_option maxHeartbeats 2000000 in
theorem inner_calls (l : List Int) (hl : l.length = 64) (w : World) :
    Calls Try.prog 61 #[.agg (cellsOf l)] w fun e w' => ∃ g c, e = .returned (.slice (some ⟨g, 0, none⟩) 48 c) ∧ 48 ≤ c ∧ Kd.C (Kd.int .u8) w' (some ⟨g, 0, none⟩) 48 (innerL l 4) ∧ Below w.heap.size w w' := by
  have HL := Aside0.mk hl
  have HI := Aside0.mk (innerL_length l hl)
  clear hl
  have HB := Aside0.mk (HasB.new w l _ rfl)
  have HW := Aside0.mk (below_alloc (Below.refl w.heap.size w) (.cells (cellsOf l) 47 (0, 0)))
  have HS := Aside0.mk (show w.heap.size + 1 ≤ (w.alloc (.cells (cellsOf l) 47 (0, 0))).heap.size by rw [World.size_alloc]; exact Nat.le_refl _)
  go_enter Try.func61, Try.ntmps61
  go_wp2
  go_loopg [3, 4] 4 (fun kq v3 v4 w' => ∃ q : Nat, Aside0 (q + kq = 4) ∧ v4 = .int .i64 q ∧ Aside0 (w'.ownsRow (w.heap.size + 1) 5 1 v3 (innerL l q).length (encs (Value.int .u8) (innerL l q))) ∧ Aside0 (HasB w' w.heap.size l) ∧ Aside0 (Below w.heap.size w w') ∧ Aside0 (w.heap.size + 1 ≤ w'.heap.size))
  case atStart => exact ⟨0, ⟨rfl⟩, rfl, ⟨own_nil _ _ _ _⟩, HB, HW, HS⟩
  case round =>
    clear HB HW HS
    obtain ⟨q, HQ, rfl, HO, HB, HW, HS⟩ := hrel
    cases gk with
    | zero =>
      have e := HQ.out
      obtain rfl : q = 4 := by omega
      obtain ⟨g, c, e3, hg, hc, hC⟩ := own_at HO.out (HI.out 4 (Nat.le_refl _)) (by decide)
      subst e3
      have HC := Aside0.mk hC
      have Hc := Aside0.mk hc
      clear hg hc hC
      go_wp2
      go_ret
      exact ⟨g, c, rfl, Hc.out, HC.out, HW.out⟩
    | succ k1 =>
      have c : (q : Int) < 4 := by have := HQ.out; omega
      have HQ4 := Aside0.mk (show q < 4 by have := HQ.out; omega)
      have hsl : ∀ W, (Instr.sliceAt 47 (.pointer (some ⟨w.heap.size, 0, none⟩)) (some (.int .i64 (16 * (q : Int) + 4))) (some (.int .i64 (16 * (q : Int) + 16))) none).run Try.prog W = .ok (.slice (some ⟨w.heap.size, 16 * q + 4, none⟩) 12 (64 - (16 * q + 4))) W := by
        intro W
        have hq := HQ4.out
        have h := slice47_lh w.heap.size (16 * q + 4) (16 * q + 16) (by omega) (by omega) (by omega) W
        rw [show ((16 * q + 4 : Nat) : Int) = 16 * (q : Int) + 4 by omega, show ((16 * q + 16 : Nat) : Int) = 16 * (q : Int) + 16 by omega, show 16 * q + 16 - (16 * q + 4) = 12 by omega] at h
        exact h
      go_wp2_with (first
        | ((with_reducible refine gate_builtin (b := .append) (xs := #[.tmp 9, .tmp 16]) rfl ?_); at_builtin; go_must (refine print_append_row_of (w0 := wr) (Value.int .u8) (0 : Int) (w.heap.size + 1) rfl (.tmp 9) (.tmp 16) 23 5 (.int .u8 0) 1 rfl Try.underlying23 info5 rfl (by decide) (fun _ => rfl) _ (innerL l q) ((l.drop (16 * q + 4)).take 12) _ _ _ rfl rfl ?o1 ?r1 ?b1 ?s1 ?l1 ?_; (case o1 => exact HO.out); (case r1 => (have := HB.out.C (16 * q + 4) 12 (by have := HQ4.out; have := HL.out; omega) (by rw [HL.out]; decide)); rw [show ((l.drop (16 * q + 4)).take 12).length = 12 by have := HQ4.out; have := HL.out; simp; omega] at this; exact Kd.reads_of_C this); (case b1 => exact Below.refl _ _); (case s1 => exact HS.out); (case l1 => rw [HI.out q (by have := HQ4.out; omega)]; have := HQ4.out; omega); intro v3 w4 ho hB hg hat; have P1 := Aside0.mk ho; have P2 := Aside0.mk (show HasB w4 w.heap.size l from (hB.block w.heap.size (by omega)).trans HB.out); have P3 := Aside0.mk (show Below w.heap.size w w4 from HW.out.trans ⟨hB.os, hB.tape, hB.output, hB.size, fun k hk => hB.block k (by omega)⟩); have P4 := Aside0.mk (Nat.le_trans HS.out hB.size); clear ho hB hg hat)))
      go_roundg k1
      case measure => omega
      case rel => exact ⟨q + 1, ⟨by have := HQ.out; omega⟩, by go_num, P1, P2, P3, P4⟩
end Go.Proofs.Ytjenbffnpekbjaa.F
namespace Go.Proofs.Ytjenbffnpekbjaa.F
open Go.RowKit Go.Proofs.YtjenbffnpekbjaaW.PrintWords Go.Proofs.YtjenbffnpekbjaaW.PrintLast Go.Proofs.YtjenbffnpekbjaaW.PrintMore
set_option linter.unusedVariables false
theorem be_inj : ∀ (a b : List Int), a.length = b.length → Bytes a → Bytes b → be a = be b → a = b := by
  intro a
  induction a with
  | nil => intro b h _ _ _; cases b with
    | nil => rfl
    | cons d b => cases h
  | cons c a ih =>
    intro b h ha hb e
    cases b with
    | nil => cases h
    | cons d b =>
      have hl : a.length = b.length := by simpa using h
      have ra := be_range a (fun x hx => ha x (by simp [hx]))
      have rb := be_range b (fun x hx => hb x (by simp [hx]))
      rw [be_cons, be_cons, hl] at e
      rw [hl] at ra
      obtain ⟨p, hp⟩ : ∃ p : Int, (256 : Int) ^ b.length = p := ⟨_, rfl⟩
      rw [hp] at e ra rb
      have hcd : c = d := by
        rcases Int.lt_trichotomy c d with h1 | h1 | h1
        · have : (c + 1) * p ≤ d * p := Int.mul_le_mul_of_nonneg_right (by omega) (by omega)
          rw [Int.add_mul] at this
          omega
        · exact h1
        · have : (d + 1) * p ≤ c * p := Int.mul_le_mul_of_nonneg_right (by omega) (by omega)
          rw [Int.add_mul] at this
          omega
      subst hcd
      rw [ih b hl (fun x hx => ha x (by simp [hx])) (fun x hx => hb x (by simp [hx])) (by omega)]
theorem inner_get (l : List Int) (hl : l.length = 64) (k : Nat) : ∀ q, q ≤ 4 → (innerL l q)[k]? = if k < 12 * q then l[16 * (k / 12) + 4 + k % 12]? else none := by
  intro q
  induction q with
  | zero => intro _; rw [if_neg (by omega)]; rfl
  | succ q ih =>
    intro hq
    rw [innerL, List.getElem?_append, innerL_length l hl q (by omega), ih (by omega), List.getElem?_take, List.getElem?_drop]
    by_cases h1 : k < 12 * q
    · rw [if_pos h1, if_pos h1, if_pos (by omega)]
    · rw [if_neg h1]
      by_cases h2 : k < 12 * (q + 1)
      · rw [if_pos (by omega), if_pos h2]
        have e : k / 12 = q := by omega
        rw [show 16 * q + 4 + (k - 12 * q) = 16 * (k / 12) + 4 + k % 12 by omega]
      · rw [if_neg (by omega), if_neg h2]
theorem keeps_pure (X : List Int) (hl : X.length = 64) (h8 : Bytes X) (hw : Whole X) (hr : Right X) (i : Nat) (hi : i < 64) (c : Int) (hc : 0 ≤ c ∧ c < 256) (h : getE (X.set i c) = 0) : X[i]? = some c := by
  obtain ⟨hw', hr'⟩ := getE_ok _ h
  have hl' : (X.set i c).length = 64 := by rw [List.length_set]; exact hl
  have h8' : Bytes (X.set i c) := by
    intro x hx
    rcases List.mem_or_eq_of_mem_set hx with hx | rfl
    · exact h8 x hx
    · exact hc
  have get : ∀ k, k ≠ i → (X.set i c)[k]? = X[k]? := fun k hk => by rw [List.getElem?_set, if_neg (fun e => hk e.symm)]
  have geti : (X.set i c)[i]? = some c := by rw [List.getElem?_set, if_pos rfl, if_pos (by omega)]
  -- a quarter that is not touched in its number
  have tag_same : ∀ q, q < 4 → (∀ j, j < 4 → 16 * q + j ≠ i) → tagL (X.set i c) q = tagL X q := by
    intro q hq hne
    unfold tagL
    congr 1
    apply List.ext_getElem?
    intro j
    rw [List.getElem?_take, List.getElem?_take, List.getElem?_drop, List.getElem?_drop]
    by_cases hj : j < 4
    · rw [if_pos hj, if_pos hj, get _ (hne j hj)]
    · rw [if_neg hj, if_neg hj]
  by_cases h4 : i % 16 < 4
  · obtain ⟨q', hq', hne⟩ : ∃ q', q' < 4 ∧ q' ≠ i / 16 := by
      by_cases h0 : i / 16 = 0
      · exact ⟨1, by decide, by omega⟩
      · exact ⟨0, by decide, by omega⟩
    have e1 := tag_same q' hq' (by intro j hj; omega)
    have e2 : tagL (X.set i c) (i / 16) = tagL X (i / 16) := by
      rw [hw'.2 (i / 16) (by omega), ← hw'.2 q' hq', e1, hw.2 q' hq', hw.2 (i / 16) (by omega)]
    unfold tagL at e2
    have e3 := be_inj _ _ (by simp) (fun x hx => h8' x (List.mem_of_mem_drop (List.mem_of_mem_take hx))) (fun x hx => h8 x (List.mem_of_mem_drop (List.mem_of_mem_take hx))) e2
    have e4 := congrArg (fun l => l[i % 16]?) e3
    simp only [List.getElem?_take, List.getElem?_drop, if_pos h4, show 16 * (i / 16) + i % 16 = i by omega] at e4
    rw [geti] at e4
    exact e4.symm
  · have ht : tagL (X.set i c) 0 = tagL X 0 := tag_same 0 (by decide) (by intro j hj; omega)
    have hI : ∀ k, (innerL (X.set i c) 4)[k]? = if k = 12 * (i / 16) + (i % 16 - 4) then some c else (innerL X 4)[k]? := by
      intro k
      rw [inner_get _ hl' k 4 (by decide), inner_get _ hl k 4 (by decide)]
      by_cases hk : k = 12 * (i / 16) + (i % 16 - 4)
      · rw [if_pos hk, if_pos (by omega), show 16 * (k / 12) + 4 + k % 12 = i by omega, geti]
      · rw [if_neg hk]
        by_cases h2 : k < 12 * 4
        · rw [if_pos h2, if_pos h2, get _ (by omega)]
        · rw [if_neg h2, if_neg h2]
    have hX : X[i]? = (innerL X 4)[12 * (i / 16) + (i % 16 - 4)]? := by
      rw [inner_get _ hl _ 4 (by decide), if_pos (by omega)]
      congr 1
      omega
    have hn1 := innerL_length X hl 4 (by decide)
    have hn2 := innerL_length _ hl' 4 (by decide)
    have h8i := innerL_bytes X h8 4
    have hset : innerL (X.set i c) 4 = (innerL X 4).set (12 * (i / 16) + (i % 16 - 4)) c := by
      apply List.ext_getElem?
      intro k
      rw [hI k, List.getElem?_set]
      by_cases hk : k = 12 * (i / 16) + (i % 16 - 4)
      · rw [if_pos hk, if_pos hk.symm, if_pos (by omega)]
      · rw [if_neg hk, if_neg (fun e => hk e.symm)]
    unfold Right at hr hr'
    rw [ht, hset] at hr'
    generalize innerL X 4 = I at *
    generalize hidx : 12 * (i / 16) + (i % 16 - 4) = idx at *
    have hidx48 : idx < 48 := by omega
    rw [hX]
    by_cases hlt : idx < 44
    · have e1 : (I.set idx c).take 44 = (I.take 44).set idx c := by
        apply List.ext_getElem?
        intro k
        simp only [List.getElem?_take, List.getElem?_set, List.length_take]
        by_cases hk : k < 44
        · simp only [if_pos hk]
          by_cases hki : idx = k
          · rw [if_pos hki, if_pos hki, if_pos (by omega), if_pos (by omega)]
          · rw [if_neg hki, if_neg hki]
        · simp only [if_neg hk]
          rw [if_neg (by omega)]
      have e2 : (I.set idx c).drop 44 = I.drop 44 := by
        apply List.ext_getElem?
        intro k
        rw [List.getElem?_drop, List.getElem?_drop, List.getElem?_set, if_neg (by omega)]
      rw [e1, e2, ← hr] at hr'
      have hb1 := be_bs (fnv (tagL X 0) ((I.take 44).set idx c)) 4 (by unfold IsSz; simp) (fnv_range _ _).1 (by have := (fnv_range (tagL X 0) ((I.take 44).set idx c)).2; simp [top]; omega)
      have hb2 := be_bs (fnv (tagL X 0) (I.take 44)) 4 (by unfold IsSz; simp) (fnv_range _ _).1 (by have := (fnv_range (tagL X 0) (I.take 44)).2; simp [top]; omega)
      rw [hr', hb2] at hb1
      have hlen : idx < (I.take 44).length := by rw [List.length_take]; omega
      have hone := (fold_one (fold 2166136261 (bs (tagL X 0) 4)) (I.take 44) (fold_range u32_begin) (fun x hx => h8i x (List.mem_of_mem_take hx)) idx hlen c hc).1 hb1.symm
      rw [hone, List.getElem_take, List.getElem?_eq_getElem]
    · have e1 : (I.set idx c).take 44 = I.take 44 := by
        apply List.ext_getElem?
        intro k
        simp only [List.getElem?_take, List.getElem?_set]
        by_cases hk : k < 44
        · rw [if_pos hk, if_pos hk, if_neg (by omega)]
        · rw [if_neg hk, if_neg hk]
      rw [e1, hr] at hr'
      have e4 := congrArg (fun l => l[idx - 44]?) hr'
      simp only [List.getElem?_drop, show 44 + (idx - 44) = idx by omega, List.getElem?_set, if_pos] at e4
      rw [e4, if_pos (by omega)]
end Go.Proofs.Ytjenbffnpekbjaa.F
namespace Go.Proofs.Ytjenbffnpekbjaa.F
open Go.RowKit Go.Proofs.YtjenbffnpekbjaaW.PrintWords Go.Proofs.YtjenbffnpekbjaaW.PrintLast Go.Proofs.YtjenbffnpekbjaaW.PrintMore
set_option linter.unusedVariables false
theorem right_be (l : List Int) (hl : l.length = 64) (h8 : Bytes l) : be ((innerL l 4).drop 44) = fnv (tagL l 0) ((innerL l 4).take 44) ↔ Right l := by
  have hr := fnv_range (tagL l 0) ((innerL l 4).take 44)
  have hb := be_bs (fnv (tagL l 0) ((innerL l 4).take 44)) 4 (by unfold IsSz; simp) hr.1 (by have := hr.2; simp [top]; omega)
  unfold Right
  constructor
  · intro h
    refine be_inj _ _ ?_ (bs_bytes _ 4) (fun c hc => innerL_bytes l h8 4 c (List.mem_of_mem_drop hc)) (hb.trans h.symm)
    rw [bs4_length, List.length_drop, innerL_length l hl 4 (by decide)]
  · intro h
    rw [← h]
    exact hb
theorem getR_inner (l : List Int) (hl : l.length = 64) : getR (innerL l 4) 44 4 = (be ((innerL l 4).drop 44), 0) := by
  have hi := innerL_length l hl 4 (by decide)
  unfold getR
  rw [if_neg (by unfold IsSz; omega), if_neg (by rw [hi]; decide)]
  have : (((innerL l 4).drop (44 : Int).toNat).take (4 : Int).toNat) = (innerL l 4).drop 44 := List.take_of_length_le (by rw [List.length_drop, hi]; decide)
  rw [this]
theorem rsum_eq (n : Int) (x : List Int) (hn : U32 n) (h8 : Bytes x) (hl : x.length ≤ 140737488351232) : wharfageref05_sum.f (x.length + 12) n x = some (fnv n x) := by
  have m : ∀ k a b c, wharfageref01_Put.f 12 a b = some c → wharfageref01_Put.f (12 + k) a b = some c := by
    intro k a b c h
    induction k with
    | zero => exact h
    | succ k ih => exact wharfageref01_Put.mono a b (12 + k) _ ih
  have hw : IntKind.u64.wrap n = n := by unfold U32 at hn; rw [IntKind.wrap_u64]; omega
  have e2 : wharfageref01_Put.f (x.length + 12) (IntKind.u64.wrap n) 4 = some (bs n 4, 0) := by
    rw [Nat.add_comm]
    apply m
    rw [hw, ref_put_eq n 4 (by unfold U64; unfold U32 at hn; omega)]
    have : n < top 4 := by unfold U32 at hn; simp [top]; omega
    simp [putR, IsSz, this]
  have hb := bs4_length n
  unfold wharfageref05_sum.f
  rw [e2]
  simp only [Option.bind_some]
  rw [rof_eq _ _ (bs_bytes n 4) (by rw [hb]; omega) (by rw [hb]; omega)]
  simp only [Option.bind_some]
  rw [rmore_eq _ _ _ (fold_range u32_begin) h8 (by omega) (by omega)]
  rfl
theorem rsum_at (n : Int) (A1 : Option Addr) (c1 m : Nat) (x : List Int) (w : World) (hn : U32 n) (h8 : Bytes x) (hx : x.length = m) (hl : m ≤ 140737488351232) (hr : Kd.C (Kd.int .u8) w A1 m x) (hc : m ≤ c1) :
    Calls Try.prog 58 #[.int .u32 n, .slice A1 m c1] w fun e w' => e = .returned (.int .u32 (fnv n x)) ∧ Below w.heap.size w w' := by
  subst hx
  exact wharfageref05_sum.calls _ n A1 c1 x _ w hr hc (rsum_eq n x hn h8 hl)
/-- What the reference's Get tells. -/
def RGotPost (l : List Int) (e : Ending) (w' : World) : Prop :=
  (¬ Whole l ∧ e = .returned (.tuple #[.int .u32 0, .slice none 0 0, .int .i64 5]))
  ∨ (Whole l ∧ ¬ Right l ∧ e = .returned (.tuple #[.int .u32 0, .slice none 0 0, .int .i64 6]))
  ∨ (Whole l ∧ Right l ∧ ∃ g c, e = .returned (.tuple #[.int .u32 (tagL l 0), .slice (some ⟨g, 0, none⟩) 44 c, .int .i64 0]) ∧ 44 ≤ c ∧ Kd.C (Kd.int .u8) w' (some ⟨g, 0, none⟩) 44 ((innerL l 4).take 44))
set_option maxHeartbeats 4000000 in
theorem rgetx_calls (l : List Int) (hl : l.length = 64) (h8 : Bytes l) (w : World) :
    Calls Try.prog 41 #[.agg (cellsOf l)] w fun e w' => RGotPost l e w' ∧ Below w.heap.size w w' := by
  have T0 := Aside0.mk (fun (W : World) => show Calls Try.prog 60 #[.agg (cellsOf l), .int .i64 0] W fun e w' => e = .returned (.int .u32 (tagL l 0)) ∧ Below W.heap.size W w' from tag_calls l 0 hl h8 (by decide) W)
  have T1 := Aside0.mk (fun (W : World) => show Calls Try.prog 60 #[.agg (cellsOf l), .int .i64 1] W fun e w' => e = .returned (.int .u32 (tagL l 1)) ∧ Below W.heap.size W w' from tag_calls l 1 hl h8 (by decide) W)
  have T2 := Aside0.mk (fun (W : World) => show Calls Try.prog 60 #[.agg (cellsOf l), .int .i64 2] W fun e w' => e = .returned (.int .u32 (tagL l 2)) ∧ Below W.heap.size W w' from tag_calls l 2 hl h8 (by decide) W)
  have T3 := Aside0.mk (fun (W : World) => show Calls Try.prog 60 #[.agg (cellsOf l), .int .i64 3] W fun e w' => e = .returned (.int .u32 (tagL l 3)) ∧ Below W.heap.size W w' from tag_calls l 3 hl h8 (by decide) W)
  have S0 := Aside0.mk (St.mk (below_alloc (Below.refl w.heap.size w) (.cells (cellsOf l) 47 (0, 0))) (bl := [(w.heap.size, l)]) (fun p hp => by simp at hp; subst hp; exact HasB.new w l _ rfl))
  have HL := Aside0.mk hl
  have H8 := Aside0.mk h8
  have HIN := Aside0.mk (fun W => inner_calls l hl W)
  have HLI := Aside0.mk (innerL_length l hl 4 (by decide))
  have HGI := Aside0.mk (getR_inner l hl)
  have H8I := Aside0.mk (innerL_bytes l h8 4)
  have HRB := Aside0.mk (right_be l hl h8)
  have UN := Aside0.mk (show U32 (tagL l 0) from tagL_range l h8 0)
  have HBE := Aside0.mk (show 0 ≤ be ((innerL l 4).drop 44) ∧ be ((innerL l 4).drop 44) < 4294967296 by
    have h := be_range ((innerL l 4).drop 44) (fun c hc => innerL_bytes l h8 4 c (List.mem_of_mem_drop hc))
    rw [List.length_drop, innerL_length l hl 4 (by decide)] at h
    exact h)
  clear hl h8
  go_enter Try.func41, Try.ntmps41
  by_cases h0 : tagL l 0 = 0
  · have NW := Aside0.mk (show ¬ Whole l from fun h => h.1 h0)
    go_wp2_with (first
      | ((with_reducible refine gate_gd rfl ?_); refine skip_guard (by rfl) ?_)
      | ((with_reducible refine gate_load47 (x := .tmp 1) rfl ?_); (try (refine gate_guard (by rfl) ?_; dsimp only)); go_must (refine loadB rfl (.tmp 1) rfl w.heap.size rfl l HL.out (by first | exact S0.out.has (w.heap.size, l) (by simp) | exact S1.out.has (w.heap.size, l) (by simp) | exact S2.out.has (w.heap.size, l) (by simp) | exact S3.out.has (w.heap.size, l) (by simp) | exact S4.out.has (w.heap.size, l) (by simp)) ?_))
      | (go_at_call 60; ((with_reducible refine (T0.out _).mono ?_); rintro e w1 ⟨rfl, hb⟩; have S1 := Aside0.mk (S0.out.call hb); clear hb S0))
      | (go_at_call 60; ((with_reducible refine (T1.out _).mono ?_); rintro e w2 ⟨rfl, hb⟩; have S2 := Aside0.mk (S1.out.call hb); clear hb S1))
      | (go_at_call 60; ((with_reducible refine (T2.out _).mono ?_); rintro e w3 ⟨rfl, hb⟩; have S3 := Aside0.mk (S2.out.call hb); clear hb S2))
      | (go_at_call 60; ((with_reducible refine (T3.out _).mono ?_); rintro e w4 ⟨rfl, hb⟩; have S4 := Aside0.mk (S3.out.call hb); clear hb S3)))
    go_ret3
    exact ⟨.inl ⟨NW.out, rfl⟩, by first | exact S1.out.below | exact S2.out.below | exact S3.out.below | exact S4.out.below⟩
  have hb0 : (tagL l 0 == 0) = false := by simpa using h0
  by_cases h1 : ¬ tagL l 1 = tagL l 0
  · have NW := Aside0.mk (show ¬ Whole l from fun h => h1 (h.2 1 (by decide)))
    have hb1 : (tagL l 1 != tagL l 0) = true := by simpa using h1
    go_wp2_with (first
      | ((with_reducible refine gate_gd rfl ?_); refine skip_guard (by rfl) ?_)
      | ((with_reducible refine gate_load47 (x := .tmp 1) rfl ?_); (try (refine gate_guard (by rfl) ?_; dsimp only)); go_must (refine loadB rfl (.tmp 1) rfl w.heap.size rfl l HL.out (by first | exact S0.out.has (w.heap.size, l) (by simp) | exact S1.out.has (w.heap.size, l) (by simp) | exact S2.out.has (w.heap.size, l) (by simp) | exact S3.out.has (w.heap.size, l) (by simp) | exact S4.out.has (w.heap.size, l) (by simp)) ?_))
      | (go_at_call 60; ((with_reducible refine (T0.out _).mono ?_); rintro e w1 ⟨rfl, hb⟩; have S1 := Aside0.mk (S0.out.call hb); clear hb S0))
      | (go_at_call 60; ((with_reducible refine (T1.out _).mono ?_); rintro e w2 ⟨rfl, hb⟩; have S2 := Aside0.mk (S1.out.call hb); clear hb S1))
      | (go_at_call 60; ((with_reducible refine (T2.out _).mono ?_); rintro e w3 ⟨rfl, hb⟩; have S3 := Aside0.mk (S2.out.call hb); clear hb S2))
      | (go_at_call 60; ((with_reducible refine (T3.out _).mono ?_); rintro e w4 ⟨rfl, hb⟩; have S4 := Aside0.mk (S3.out.call hb); clear hb S3)))
    go_ret3
    exact ⟨.inl ⟨NW.out, rfl⟩, by first | exact S1.out.below | exact S2.out.below | exact S3.out.below | exact S4.out.below⟩
  replace h1 := Decidable.not_not.1 h1
  by_cases h2 : ¬ tagL l 2 = tagL l 0
  · have NW := Aside0.mk (show ¬ Whole l from fun h => h2 (h.2 2 (by decide)))
    have hb2 : (tagL l 2 != tagL l 0) = true := by simpa using h2
    go_wp2_with (first
      | ((with_reducible refine gate_gd rfl ?_); refine skip_guard (by rfl) ?_)
      | ((with_reducible refine gate_load47 (x := .tmp 1) rfl ?_); (try (refine gate_guard (by rfl) ?_; dsimp only)); go_must (refine loadB rfl (.tmp 1) rfl w.heap.size rfl l HL.out (by first | exact S0.out.has (w.heap.size, l) (by simp) | exact S1.out.has (w.heap.size, l) (by simp) | exact S2.out.has (w.heap.size, l) (by simp) | exact S3.out.has (w.heap.size, l) (by simp) | exact S4.out.has (w.heap.size, l) (by simp)) ?_))
      | (go_at_call 60; ((with_reducible refine (T0.out _).mono ?_); rintro e w1 ⟨rfl, hb⟩; have S1 := Aside0.mk (S0.out.call hb); clear hb S0))
      | (go_at_call 60; ((with_reducible refine (T1.out _).mono ?_); rintro e w2 ⟨rfl, hb⟩; have S2 := Aside0.mk (S1.out.call hb); clear hb S1))
      | (go_at_call 60; ((with_reducible refine (T2.out _).mono ?_); rintro e w3 ⟨rfl, hb⟩; have S3 := Aside0.mk (S2.out.call hb); clear hb S2))
      | (go_at_call 60; ((with_reducible refine (T3.out _).mono ?_); rintro e w4 ⟨rfl, hb⟩; have S4 := Aside0.mk (S3.out.call hb); clear hb S3)))
    go_ret3
    exact ⟨.inl ⟨NW.out, rfl⟩, by first | exact S1.out.below | exact S2.out.below | exact S3.out.below | exact S4.out.below⟩
  replace h2 := Decidable.not_not.1 h2
  by_cases h3 : ¬ tagL l 3 = tagL l 0
  · have NW := Aside0.mk (show ¬ Whole l from fun h => h3 (h.2 3 (by decide)))
    have hb3 : (tagL l 3 != tagL l 0) = true := by simpa using h3
    go_wp2_with (first
      | ((with_reducible refine gate_gd rfl ?_); refine skip_guard (by rfl) ?_)
      | ((with_reducible refine gate_load47 (x := .tmp 1) rfl ?_); (try (refine gate_guard (by rfl) ?_; dsimp only)); go_must (refine loadB rfl (.tmp 1) rfl w.heap.size rfl l HL.out (by first | exact S0.out.has (w.heap.size, l) (by simp) | exact S1.out.has (w.heap.size, l) (by simp) | exact S2.out.has (w.heap.size, l) (by simp) | exact S3.out.has (w.heap.size, l) (by simp) | exact S4.out.has (w.heap.size, l) (by simp)) ?_))
      | (go_at_call 60; ((with_reducible refine (T0.out _).mono ?_); rintro e w1 ⟨rfl, hb⟩; have S1 := Aside0.mk (S0.out.call hb); clear hb S0))
      | (go_at_call 60; ((with_reducible refine (T1.out _).mono ?_); rintro e w2 ⟨rfl, hb⟩; have S2 := Aside0.mk (S1.out.call hb); clear hb S1))
      | (go_at_call 60; ((with_reducible refine (T2.out _).mono ?_); rintro e w3 ⟨rfl, hb⟩; have S3 := Aside0.mk (S2.out.call hb); clear hb S2))
      | (go_at_call 60; ((with_reducible refine (T3.out _).mono ?_); rintro e w4 ⟨rfl, hb⟩; have S4 := Aside0.mk (S3.out.call hb); clear hb S3)))
    go_ret3
    exact ⟨.inl ⟨NW.out, rfl⟩, by first | exact S1.out.below | exact S2.out.below | exact S3.out.below | exact S4.out.below⟩
  replace h3 := Decidable.not_not.1 h3
  have WH := Aside0.mk (show Whole l from ⟨h0, fun q hq => by rcases (by omega : q = 0 ∨ q = 1 ∨ q = 2 ∨ q = 3) with rfl | rfl | rfl | rfl; rfl; exact h1; exact h2; exact h3⟩)
  have hBx := HBE.out
  have hR := HRB.out
  have hget := HGI.out
  generalize be ((innerL l 4).drop 44) = B at hBx hR hget
  have hBw : B % 4294967296 = B := by omega
  have HG := Aside0.mk (fun (g c : Nat) (W : World) (hc : 48 ≤ c) (h : Kd.C (Kd.int .u8) W (some ⟨g, 0, none⟩) 48 (innerL l 4)) => rget_at (some ⟨g, 0, none⟩) c 48 (innerL l 4) 44 4 B 0 W HLI.out h hc (by decide) H8I.out (by unfold I64; omega) (by unfold I64; omega) hget)
  have HSm := Aside0.mk (fun (g c : Nat) (W : World) (hc : 48 ≤ c) (h : Kd.C (Kd.int .u8) W (some ⟨g, 0, none⟩) 48 (innerL l 4)) => rsum_at (tagL l 0) (some ⟨g, 0, none⟩) c 44 ((innerL l 4).take 44) W UN.out (fun x hx => H8I.out x (List.mem_of_mem_take hx)) (by have := HLI.out; simp; omega) (by decide) (C_take h 44 (by decide)) (by omega))
  have hsl : ∀ (g c : Nat), 48 ≤ c → ∀ W : World, (Instr.slice 23 (.slice (some ⟨g, 0, none⟩) 48 c) none (some (.int .i64 44)) none).run Try.prog W = .ok (.slice (some ⟨g, 0, none⟩) 44 c) W := by
    intro g c hc W
    rw [run_slice_h W 23 _ 48 c Try.underlying23 .i64 44 (by decide) (by omega)]
    have hs : (sizeOf (Try.prog.elem 23)).run Try.prog W = .ok 1 W := by kernel_rfl
    rw [hs]
    simp [Result.andThen, sliced, Addr.add]
  have HSL := Aside0.mk hsl
  clear hsl hget
  generalize hS : fnv (tagL l 0) ((innerL l 4).take 44) = sm at *
  by_cases hBS : B = sm
  · have RR := Aside0.mk (hR.1 hBS)
    clear hR hBx
    go_wp2_with (first
      | ((with_reducible refine gate_gd rfl ?_); refine skip_guard (by rfl) ?_)
      | ((with_reducible refine gate_load47 (x := .tmp 1) rfl ?_); (try (refine gate_guard (by rfl) ?_; dsimp only)); go_must (refine loadB rfl (.tmp 1) rfl w.heap.size rfl l HL.out (by first | exact S0.out.has (w.heap.size, l) (by simp) | exact S1.out.has (w.heap.size, l) (by simp) | exact S2.out.has (w.heap.size, l) (by simp) | exact S3.out.has (w.heap.size, l) (by simp) | exact S4.out.has (w.heap.size, l) (by simp)) ?_))
      | (go_at_call 60; ((with_reducible refine (T0.out _).mono ?_); rintro e w1 ⟨rfl, hb⟩; have S1 := Aside0.mk (S0.out.call hb); clear hb S0))
      | (go_at_call 60; ((with_reducible refine (T1.out _).mono ?_); rintro e w2 ⟨rfl, hb⟩; have S2 := Aside0.mk (S1.out.call hb); clear hb S1))
      | (go_at_call 60; ((with_reducible refine (T2.out _).mono ?_); rintro e w3 ⟨rfl, hb⟩; have S3 := Aside0.mk (S2.out.call hb); clear hb S2))
      | (go_at_call 60; ((with_reducible refine (T3.out _).mono ?_); rintro e w4 ⟨rfl, hb⟩; have S4 := Aside0.mk (S3.out.call hb); clear hb S3))
      | (go_at_call 61; ((with_reducible refine (HIN.out _).mono ?_); rintro e w5 ⟨g, c, rfl, hc, hC, hb⟩; have S5 := Aside0.mk (S4.out.call hb); have C5 := Aside0.mk hC; have Hc := Aside0.mk hc; have hs := HSL.out g c hc; clear hb hC hc S4))
      | (go_at_call 29; ((with_reducible refine (HG.out _ _ _ Hc.out C5.out).mono ?_); rintro e w6 ⟨rfl, hb⟩; have S6 := Aside0.mk (S5.out.call hb); have C6 := Aside0.mk (Kd.C_below C5.out hb); clear hb S5 C5))
      | (go_at_call 58; ((refine (HSm.out _ _ _ Hc.out C6.out).mono ?_); rintro e w7 ⟨rfl, hb⟩; have S7 := Aside0.mk (S6.out.call hb); have C7 := Aside0.mk (Kd.C_below C6.out hb); clear hb S6 C6)))
    have hs := HSL.out g c Hc.out
    go_quiet (fail)
    go_wp2
    go_ret3
    exact ⟨.inr (.inr ⟨WH.out, RR.out, g, c, rfl, by have := Hc.out; omega, C_drewN (C_take C7.out 44 (by decide)) _⟩), (S7.out.drew _).below⟩
  · have RR := Aside0.mk (show ¬ Right l from fun h => hBS (hR.2 h))
    have hbs : (B != sm) = true := by simpa using hBS
    clear hR hBx
    go_wp2_with (first
      | ((with_reducible refine gate_gd rfl ?_); refine skip_guard (by rfl) ?_)
      | ((with_reducible refine gate_load47 (x := .tmp 1) rfl ?_); (try (refine gate_guard (by rfl) ?_; dsimp only)); go_must (refine loadB rfl (.tmp 1) rfl w.heap.size rfl l HL.out (by first | exact S0.out.has (w.heap.size, l) (by simp) | exact S1.out.has (w.heap.size, l) (by simp) | exact S2.out.has (w.heap.size, l) (by simp) | exact S3.out.has (w.heap.size, l) (by simp) | exact S4.out.has (w.heap.size, l) (by simp)) ?_))
      | (go_at_call 60; ((with_reducible refine (T0.out _).mono ?_); rintro e w1 ⟨rfl, hb⟩; have S1 := Aside0.mk (S0.out.call hb); clear hb S0))
      | (go_at_call 60; ((with_reducible refine (T1.out _).mono ?_); rintro e w2 ⟨rfl, hb⟩; have S2 := Aside0.mk (S1.out.call hb); clear hb S1))
      | (go_at_call 60; ((with_reducible refine (T2.out _).mono ?_); rintro e w3 ⟨rfl, hb⟩; have S3 := Aside0.mk (S2.out.call hb); clear hb S2))
      | (go_at_call 60; ((with_reducible refine (T3.out _).mono ?_); rintro e w4 ⟨rfl, hb⟩; have S4 := Aside0.mk (S3.out.call hb); clear hb S3))
      | (go_at_call 61; ((with_reducible refine (HIN.out _).mono ?_); rintro e w5 ⟨g, c, rfl, hc, hC, hb⟩; have S5 := Aside0.mk (S4.out.call hb); have C5 := Aside0.mk hC; have Hc := Aside0.mk hc; have hs := HSL.out g c hc; clear hb hC hc S4))
      | (go_at_call 29; ((with_reducible refine (HG.out _ _ _ Hc.out C5.out).mono ?_); rintro e w6 ⟨rfl, hb⟩; have S6 := Aside0.mk (S5.out.call hb); have C6 := Aside0.mk (Kd.C_below C5.out hb); clear hb S5 C5))
      | (go_at_call 58; ((refine (HSm.out _ _ _ Hc.out C6.out).mono ?_); rintro e w7 ⟨rfl, hb⟩; have S7 := Aside0.mk (S6.out.call hb); have C7 := Aside0.mk (Kd.C_below C6.out hb); clear hb S6 C6)))
    go_ret3
    exact ⟨.inr (.inl ⟨WH.out, RR.out, rfl⟩), S7.out.below⟩
end Go.Proofs.Ytjenbffnpekbjaa.F
namespace Go.Proofs.Ytjenbffnpekbjaa.F
open Go.RowKit Go.Proofs.YtjenbffnpekbjaaW.PrintWords Go.Proofs.YtjenbffnpekbjaaW.PrintLast Go.Proofs.YtjenbffnpekbjaaW.PrintMore
set_option linter.unusedVariables false
attribute [local go_sem] max2_int min2_int max_two min_two max_three max_four
theorem HasB.range {w : World} {g : Nat} {l : List Int} (h : HasB w g l) : w.rangeAt g 0 (l.map (Value.int .u8)) := by
  intro j v hv
  refine (cell_of_row w g (0 + j) _ 47 (0, 0) h).trans ?_
  rw [Nat.zero_add, ← hv]
  simp [cellsOf]
theorem held_drew {w W : World} {g : Nat} {cs : List Value} {l : List Int} (h : W.rangeAt g 0 cs ∧ HasB W g l ∧ Below w.heap.size w W) : W.drew.rangeAt g 0 cs ∧ HasB W.drew g l ∧ Below w.heap.size w W.drew :=
  ⟨(World.rangeAt_drew _ _ _ _).2 h.1, h.2.1, below_drew' h.2.2⟩
  where below_drew' {B : Nat} {w W : World} (h : Below B w W) : Below B w W.drew := ⟨h.os, h.tape, h.output, h.size, h.block⟩
theorem held_call {w W W' : World} {g : Nat} {l : List Int} {cs : List Value} (hcs : l.map (Value.int .u8) = cs) (h : W.rangeAt g 0 cs ∧ HasB W g l ∧ Below w.heap.size w W) (hb : Below W.heap.size W W') : W'.rangeAt g 0 cs ∧ HasB W' g l ∧ Below w.heap.size w W' :=
  ⟨by rw [← hcs]; exact (h.2.1.below hb).range, h.2.1.below hb, below_step h.2.2 hb⟩
theorem wpOp_some {P : Program} {ops : Array Oper} {Q : Exit → Act → World → Prop} {i : Nat} {oi : Oper} {K : Act → World → Prop} {a : Act} {w : World} (hi : ops[i]? = some oi)
    (h : if Region.wanted oi (yielded ops a.tmps) = true then Oper.wp P oi a w K Q else K (a.put oi.dst undef) w) : wpOp P ops Q i K a w := by
  unfold wpOp
  simp only [hi]
  by_cases hw : Region.wanted oi (yielded ops a.tmps) = true
  · rw [if_pos hw] at h ⊢
    exact .inl h
  · rw [if_neg hw] at h ⊢
    exact h
theorem max4_op {P : Program} (ev : Operand → Value) (oi : Oper) (x y z u : Tmp) (ats : Array TypeId) (a b c d : Int) (w : World) (hop : oi.op = .call { callee := .builtin .max, args := #[.tmp x, .tmp y, .tmp z, .tmp u], argTypes := ats })
    (hx : ev (.tmp x) = .int .u32 a) (hy : ev (.tmp y) = .int .u32 b) (hz : ev (.tmp z) = .int .u32 c) (hu : ev (.tmp u) = .int .u32 d) : (execOp ev oi).run P w = .ok (.value (.int .u32 (max (max (max a b) c) d))) w := by
  have e : (if (if (if a < b then b else a) < c then c else if a < b then b else a) < d then d else if (if a < b then b else a) < c then c else if a < b then b else a) = max (max (max a b) c) d := by omega
  unfold execOp
  simp [hop, resolve, invoke, hx, hy, hz, hu, builtin, max_four, max2_int, e]
theorem norm_h {P : Program} {md : Region.Mode} {ops : Array Oper} {Q : Exit → Act → World → Prop} {S : World → Prop} {fuel : Nat} {listed : Array Bool} {a a' : Act} {w : World} (ha : a = a') (h : wpAnyH P md ops Q S fuel listed a' w) : wpAnyH P md ops Q S fuel listed a w := by
  subst ha
  exact h
theorem norm_t {K : Act → World → Prop} {Q : Exit → Act → World → Prop} {a a' : Act} {w : World} (ha : a = a') (h : K a' w) : Exit.then K Q .normal a w := by
  subst ha
  exact h
set_option maxHeartbeats 2000000 in
theorem rgreatest_calls (l : List Int) (hl : l.length = 64) (h8 : Bytes l) (w : World) :
    Calls Try.prog 44 #[.agg (cellsOf l)] w fun e w' => e = .returned (.int .u32 (greatL l 4)) ∧ Below w.heap.size w w' := by
  have hi : (Try.prog.info? 47).map (·.size) = some (l.map (Value.int .u8)).length := by rw [List.length_map, hl]; kernel_rfl
  have T0 := tag_calls l 0 hl h8 (by decide)
  have T1 := tag_calls l 1 hl h8 (by decide)
  have T2 := tag_calls l 2 hl h8 (by decide)
  have T3 := tag_calls l 3 hl h8 (by decide)
  have B := HasB.new w l _ rfl
  have HS : HasB (w.alloc (.cells (cellsOf l) 47 (0, 0))).drew w.heap.size l ∧ Below w.heap.size w (w.alloc (.cells (cellsOf l) 47 (0, 0))).drew := ⟨B, (held_drew (w := w) (l := l) ⟨B.range, B, below_alloc (Below.refl w.heap.size w) (.cells (cellsOf l) 47 (0, 0))⟩).2.2⟩
  replace HS := Aside0.mk HS
  replace T0 := Aside0.mk T0
  replace T1 := Aside0.mk T1
  replace T2 := Aside0.mk T2
  replace T3 := Aside0.mk T3
  replace hi := Aside0.mk hi
  have HT := Aside0.mk (show 0 ≤ tagL l 0 from (tagL_range l h8 0).1)
  clear B hl h8
  go_enter Try.func44, Try.ntmps44
  go_wp2
  refine wp_region_held (S := fun w' => HasB w' w.heap.size l ∧ Below w.heap.size w w') (by kernel_rfl) ?_
  refine wpAnyH_take (i := 0) (v := .agg (l.map (Value.int .u8)).toArray) rfl (by kernel_rfl) (by kernel_rfl) (by kernel_rfl) (fun c a w h => h) (yieldsIf_load_mid (by rfl) 47 (.tmp 1) rfl w.heap.size 0 rfl _ _ (fun W h => h.1.range) und47' rfl hi.out) HS.out ?_
  refine wpAnyH_take (i := 2) (v := .agg (l.map (Value.int .u8)).toArray) rfl (by kernel_rfl) (by kernel_rfl) (by kernel_rfl) (fun c a w h => h) (yieldsIf_load_mid (by rfl) 47 (.tmp 1) rfl w.heap.size 0 rfl _ _ (fun W h => h.1.range) und47' rfl hi.out) HS.out ?_
  refine wpAnyH_take (i := 4) (v := .agg (l.map (Value.int .u8)).toArray) rfl (by kernel_rfl) (by kernel_rfl) (by kernel_rfl) (fun c a w h => h) (yieldsIf_load_mid (by rfl) 47 (.tmp 1) rfl w.heap.size 0 rfl _ _ (fun W h => h.1.range) und47' rfl hi.out) HS.out ?_
  refine wpAnyH_take (i := 6) (v := .agg (l.map (Value.int .u8)).toArray) rfl (by kernel_rfl) (by kernel_rfl) (by kernel_rfl) (fun c a w h => h) (yieldsIf_load_mid (by rfl) 47 (.tmp 1) rfl w.heap.size 0 rfl _ _ (fun W h => h.1.range) und47' rfl hi.out) HS.out ?_
  refine wpAnyH_all (rs := [1]) (by kernel_rfl) (by decide) ?_
  intro j hj
  rw [List.mem_singleton] at hj
  subst hj
  refine wpOp_some rfl ?_
  refine goes_ Try.func60 (by kernel_rfl) rfl #[.agg (cellsOf l), .int .i64 0] (by rfl) rfl rfl (by simp only [List.map_toArray, List.map_cons, List.map_nil]; rfl) ?_
  refine (T0.out _).mono ?_
  rintro e w1 ⟨rfl, hb⟩
  have K1 := Aside0.mk (show HasB w1 w.heap.size l ∧ Below w.heap.size w w1 from ⟨HS.out.1.below hb, below_step HS.out.2 hb⟩)
  clear hb
  refine ⟨_, rfl, K1.out, ?_⟩
  refine wpAnyH_all (rs := [3]) (by kernel_rfl) (by decide) ?_
  intro j hj
  rw [List.mem_singleton] at hj
  subst hj
  refine wpOp_some rfl ?_
  refine goes_ Try.func60 (by kernel_rfl) rfl #[.agg (cellsOf l), .int .i64 1] (by rfl) rfl rfl (by simp only [List.map_toArray, List.map_cons, List.map_nil]; rfl) ?_
  refine (T1.out _).mono ?_
  rintro e w2 ⟨rfl, hb⟩
  have K2 := Aside0.mk (show HasB w2 w.heap.size l ∧ Below w.heap.size w w2 from ⟨K1.out.1.below hb, below_step K1.out.2 hb⟩)
  clear hb
  refine ⟨_, rfl, K2.out, ?_⟩
  refine wpAnyH_all (rs := [5]) (by kernel_rfl) (by decide) ?_
  intro j hj
  rw [List.mem_singleton] at hj
  subst hj
  refine wpOp_some rfl ?_
  refine goes_ Try.func60 (by kernel_rfl) rfl #[.agg (cellsOf l), .int .i64 2] (by rfl) rfl rfl (by simp only [List.map_toArray, List.map_cons, List.map_nil]; rfl) ?_
  refine (T2.out _).mono ?_
  rintro e w3 ⟨rfl, hb⟩
  have K3 := Aside0.mk (show HasB w3 w.heap.size l ∧ Below w.heap.size w w3 from ⟨K2.out.1.below hb, below_step K2.out.2 hb⟩)
  clear hb
  refine ⟨_, rfl, K3.out, ?_⟩
  refine wpAnyH_all (rs := [7]) (by kernel_rfl) (by decide) ?_
  intro j hj
  rw [List.mem_singleton] at hj
  subst hj
  refine wpOp_some rfl ?_
  refine goes_ Try.func60 (by kernel_rfl) rfl #[.agg (cellsOf l), .int .i64 3] (by rfl) rfl rfl (by simp only [List.map_toArray, List.map_cons, List.map_nil]; rfl) ?_
  refine (T3.out _).mono ?_
  rintro e w4 ⟨rfl, hb⟩
  have K4 := Aside0.mk (show HasB w4 w.heap.size l ∧ Below w.heap.size w w4 from ⟨K3.out.1.below hb, below_step K3.out.2 hb⟩)
  clear hb
  refine ⟨_, rfl, K4.out, ?_⟩
  refine norm_h (a' := ⟨#[.agg (cellsOf l), .pointer (some ⟨w.heap.size, 0, none⟩), .int .u32 0, .agg (cellsOf l), .int .u32 (tagL l 0), .agg (cellsOf l), .int .u32 (tagL l 1), .agg (cellsOf l), .int .u32 (tagL l 2), .agg (cellsOf l), .int .u32 (tagL l 3), undef], []⟩) rfl ?_
  have hmax : greatL l 4 = max (max (max (tagL l 0) (tagL l 1)) (tagL l 2)) (tagL l 3) := by
    simp only [greatL]
    have := HT.out
    omega
  generalize tagL l 0 = t0 at *
  generalize tagL l 1 = t1 at *
  generalize tagL l 2 = t2 at *
  generalize tagL l 3 = t3 at *
  generalize hGL : greatL l 4 = G at *
  have HGL := Aside0.mk hGL
  clear hGL
  refine wpAnyH_all (rs := [8]) (by kernel_rfl) (by decide) ?_
  intro j hj
  rw [List.mem_singleton] at hj
  subst hj
  refine wpOp_some rfl ?_
  refine value_ (v := .int .u32 G) (w1 := w4) (by rfl) rfl ?run ?_
  case run =>
    rw [hmax]
    exact max4_op _ _ 4 6 8 10 _ t0 t1 t2 t3 w4 rfl rfl rfl rfl rfl
  refine ⟨K4.out, ?_⟩
  refine norm_h (a' := ⟨#[.agg (cellsOf l), .pointer (some ⟨w.heap.size, 0, none⟩), .int .u32 0, .agg (cellsOf l), .int .u32 t0, .agg (cellsOf l), .int .u32 t1, .agg (cellsOf l), .int .u32 t2, .agg (cellsOf l), .int .u32 t3, .int .u32 G], []⟩) rfl ?_
  refine wpAnyH_all (rs := [9]) (by kernel_rfl) (by decide) ?_
  intro j hj
  rw [List.mem_singleton] at hj
  subst hj
  refine wpOp_some rfl ?_
  refine value_ (v := .int .u32 G) (w1 := w4) (by rfl) rfl ?run2 ?_
  case run2 => rfl
  refine ⟨K4.out, ?_⟩
  refine wpAnyH_done (by kernel_rfl) ?_ _
  refine norm_t (a' := ⟨#[.agg (cellsOf l), .pointer (some ⟨w.heap.size, 0, none⟩), .int .u32 G, .agg (cellsOf l), .int .u32 t0, .agg (cellsOf l), .int .u32 t1, .agg (cellsOf l), .int .u32 t2, .agg (cellsOf l), .int .u32 t3, .int .u32 G], []⟩) rfl ?_
  clear hmax
  go_wp2
  go_ret
  exact ⟨by rw [HGL.out]; rfl, K4.out.2⟩
end Go.Proofs.Ytjenbffnpekbjaa.F
namespace Go.Proofs.Ytjenbffnpekbjaa.F
open Go.RowKit Go.Proofs.YtjenbffnpekbjaaW.PrintWords Go.Proofs.YtjenbffnpekbjaaW.PrintLast Go.Proofs.YtjenbffnpekbjaaW.PrintMore
set_option linter.unusedVariables false
theorem u8_and63 (n : Int) : Go.bits .and .u8 n 63 = n % 64 := by
  have h3 : (BitVec.ofInt 8 63).toNat = 2 ^ 6 - 1 := by decide
  have key : (BitVec.ofInt 8 n &&& BitVec.ofInt 8 63).toNat = (n % ((2 ^ 8 : Nat) : Int)).toNat % 2 ^ 6 := by
    rw [BitVec.toNat_and, BitVec.toNat_ofInt, h3, Nat.and_two_pow_sub_one_eq_mod]
  show IntKind.u8.wrap ((BitVec.ofInt 8 n &&& BitVec.ofInt 8 63).toNat : Nat) = n % 64
  rw [key, IntKind.wrap_u8]
  omega
theorem HasB.cell {w : World} {g : Nat} {l : List Int} (h : HasB w g l) (i : Nat) (hi : i < l.length) : w.cell? ⟨g, i, none⟩ = some (.int .u8 l[i]) :=
  (cell_of_row w g i _ 47 (0, 0) h).trans (cellsOf_at l i hi)
theorem HasB.frozen {w : World} {g : Nat} {l : List Int} (h : HasB w g l) (i : Nat) : w.frozen? ⟨g, i, none⟩ = false := by
  have h2 : w.heap[g]? = some (.cells (cellsOf l) 47 (0, 0)) := h
  simp [World.frozen?, h2]
theorem HasB.setCell {w : World} {g : Nat} {l : List Int} (h : HasB w g l) (i : Nat) (c : Int) : HasB (w.setCell ⟨g, i, none⟩ (.int .u8 c)) g (l.set i c) ∧ Turn g w (w.setCell ⟨g, i, none⟩ (.int .u8 c)) := by
  have h2 : w.heap[g]? = some (.cells (cellsOf l) 47 (0, 0)) := h
  have hlt := h.lt
  refine ⟨?_, rfl, rfl, rfl, by simp [World.setCell], fun k hk => ?_⟩
  · unfold HasB World.setCell
    simp only [Array.getElem?_modify, if_pos, h2, Option.map_some]
    simp [cellsOf, List.map_set]
  · simp only [World.setCell, Array.getElem?_modify]
    rw [if_neg (fun e : g = k => hk e.symm)]
theorem C_of_cur {w : World} {g : Nat} {cur : Array Value} {n : Nat} {xs : List Int} (hg : w.heap[g]? = some (.cells cur 5 (0, 0))) (ht : cur.toList.take n = xs.map (Value.int .u8)) (hn : xs.length = n) (hl : n ≤ 9223372036854775807) : Kd.C (Kd.int .u8) w (some ⟨g, 0, none⟩) n xs := by
  refine Kd.C_of_reads (d := 0) ⟨hn, hl, fun _ => ⟨_, rfl, fun j hj => ?_⟩⟩
  rw [Go.WideShapes.add_plain]
  refine (cell_of_row w g (0 + j) _ 5 (0, 0) hg).trans ?_
  have e := congrArg (fun l => l[j]?) ht
  simp only [List.getElem?_take, if_pos hj, List.getElem?_map] at e
  rw [Nat.zero_add, ← Array.getElem?_toList, e]
  simp [List.getD_eq_getElem?_getD, show j < xs.length by omega]
theorem pad_get (x : List Int) (i : Nat) (hi : i < 44) (hx : x.length ≤ 44) : rd (padL x) (i : Int) = if i < x.length then rd x (i : Int) else 0 := by
  have hl := padL_length x hx
  rw [rd_lt (padL x) i (by omega)]
  by_cases h : i < x.length
  · rw [if_pos h, rd_lt x i h]
    simp [padL, h]
  · rw [if_neg h]
    simp [padL, List.getElem_append, h]
/-- What Get tells of a good block. -/
theorem getgood_calls (l : List Int) (hl : l.length = 64) (h8 : Bytes l) (hw : Whole l) (hr : Right l) (xs : List Int) (hx : (innerL l 4).take 44 = xs) (hxl : xs.length = 44) (w : World) :
    Calls Try.prog 40 #[.agg (cellsOf l)] w fun e w' => ∃ g, e = .returned (.tuple #[.int .u32 (tagL l 0), .slice (some ⟨g, 0, none⟩) 44 44, .int .i64 0]) ∧ Kd.C (Kd.int .u8) w' (some ⟨g, 0, none⟩) 44 xs ∧ Below w.heap.size w w' := by
  refine (getx_calls l hl h8 w).mono ?_
  rintro e w' ⟨h, hb⟩
  rcases h with ⟨h1, _⟩ | ⟨_, h1, _⟩ | ⟨_, _, g, cur, h, _, hg, ht⟩
  · exact absurd hw h1
  · exact absurd hr h1
  · rw [hx] at ht
    exact ⟨g, h, C_of_cur hg ht hxl (by decide), hb⟩
theorem bytes_of_wf' {l : List Int} (h : ∀ x ∈ l, (Lit.int .u8 x).wf = true) : Bytes l := fun c hc => by have := bounds_u8 (h c hc); omega
theorem eqz (w : World) : (Op.equalIn 10000 47 (.agg (cellsOf zeros)) (.agg #[.int .u8 0, .int .u8 0, .int .u8 0, .int .u8 0, .int .u8 0, .int .u8 0, .int .u8 0, .int .u8 0, .int .u8 0, .int .u8 0, .int .u8 0, .int .u8 0, .int .u8 0, .int .u8 0, .int .u8 0, .int .u8 0, .int .u8 0, .int .u8 0, .int .u8 0, .int .u8 0, .int .u8 0, .int .u8 0, .int .u8 0, .int .u8 0, .int .u8 0, .int .u8 0, .int .u8 0, .int .u8 0, .int .u8 0, .int .u8 0, .int .u8 0, .int .u8 0, .int .u8 0, .int .u8 0, .int .u8 0, .int .u8 0, .int .u8 0, .int .u8 0, .int .u8 0, .int .u8 0, .int .u8 0, .int .u8 0, .int .u8 0, .int .u8 0, .int .u8 0, .int .u8 0, .int .u8 0, .int .u8 0, .int .u8 0, .int .u8 0, .int .u8 0, .int .u8 0, .int .u8 0, .int .u8 0, .int .u8 0, .int .u8 0, .int .u8 0, .int .u8 0, .int .u8 0, .int .u8 0, .int .u8 0, .int .u8 0, .int .u8 0, .int .u8 0])).run Try.prog w = .ok true w := by
  have h := eq47 w zeros zeros zeros_length zeros_length
  rw [decide_eq_true rfl] at h
  exact h
theorem great_all (l : List Int) (n : Int) (h0 : 0 ≤ n) (h : ∀ q, q < 4 → tagL l q = n) : greatL l 4 = n := by
  simp only [greatL]
  rw [h 0 (by decide), h 1 (by decide), h 2 (by decide), h 3 (by decide)]
  omega
set_option maxHeartbeats 8000000 in
set_option maxRecDepth 100000 in
theorem keeps_walk (n : Int) (A1 : Option Addr) (c1 : Nat) (x : List Int) (at_ by_ : Int) (w : World) (wn : (Lit.int .u32 n).wf = true)
    (hr : Kd.C (Kd.int .u8) w A1 x.length x) (hc : x.length ≤ c1) (hl : x.length ≤ 140737488351232) (h8 : ∀ c ∈ x, (Lit.int .u8 c).wf = true) (wa : (Lit.int .u8 at_).wf = true) (wb : (Lit.int .u8 by_).wf = true) :
    Calls Try.prog 12 #[.int .u32 n, .slice A1 x.length c1, .int .u8 at_, .int .u8 by_] w fun e w' => e = .returned (.bool true) ∧ Below w.heap.size w w' := by
  have un : U32 n := by have := bounds_u32 wn; unfold U32; omega
  have ub : U8 by_ := by have := bounds_u8 wb; unfold U8; omega
  have F1 := fun (W : World) (hW : Below w.heap.size w W) => put_calls n A1 c1 x.length x W un rfl hl (Kd.C_below hr hW) hc
  have X8 := putB_bytes n x (bytes_of_wf' h8)
  have X64 := putB_length n x
  have S0 := Aside0.mk (St.mk (Below.refl w.heap.size w) (bl := []) (fun p hp => by cases hp))
  by_cases h44 : 44 < x.length
  · have e : putB n x = (zeros, 3) := by unfold putB; rw [if_pos h44]
    rw [e] at F1
    replace F1 := Aside0.mk F1
    have Z := eqz
    have hbig : ¬ ((x.length : Int) ≤ 44) := by omega
    clear e X8 X64 hr hc hl h8 wn wa wb ub un h44
    go_enter Try.func12, Try.ntmps12
    go_wp2_with (first
      | ((with_reducible refine gate_gd rfl ?_); refine skip_guard (by rfl) ?_)
      | (go_at_call 38; ((with_reducible refine (F1.out _ S0.out.below).mono ?_); rintro e w1 ⟨rfl, hb⟩; have S1 := Aside0.mk (S0.out.call hb); clear hb S0))
      | ((with_reducible refine gate_store47 (x := .tmp 9) rfl ?_); go_must (refine storeB rfl (.tmp 9) (.tmp 23) rfl w1.heap.size rfl zeros zeros rfl rfl rfl (HasB.new w1 zeros _ rfl) ?_; intro w2 hs ht; have S2 := Aside0.mk (S1.out.stored hs ht); clear hs ht S1))
      | ((with_reducible refine gate_load47 (x := .tmp 9) rfl ?_); go_must (refine loadB rfl (.tmp 9) rfl w1.heap.size rfl zeros zeros_length (S2.out.has (w1.heap.size, zeros) (by simp)) ?_))
      | (go_at_call 47; ((with_reducible refine (lives05 _).mono ?_); rintro e w3 ⟨rfl, hb⟩; have S3 := Aside0.mk (S2.out.call hb); clear hb S2)))
    all_goals (go_ret; exact ⟨rfl, S3.out.below⟩)
  · by_cases h1 : n < 1
    · have e : putB n x = (zeros, 2) := by unfold putB; rw [if_neg h44, if_pos h1]
      rw [e] at F1
      replace F1 := Aside0.mk F1
      have Z := eqz
      have hng : ¬ 0 < n := by omega
      clear e X8 X64 hr hc hl h8 wn wa wb ub un h44 h1
      go_enter Try.func12, Try.ntmps12
      go_wp2_with (first
        | ((with_reducible refine gate_gd rfl ?_); refine skip_guard (by rfl) ?_)
        | (go_at_call 38; ((with_reducible refine (F1.out _ S0.out.below).mono ?_); rintro e w1 ⟨rfl, hb⟩; have S1 := Aside0.mk (S0.out.call hb); clear hb S0))
        | ((with_reducible refine gate_store47 (x := .tmp 9) rfl ?_); go_must (refine storeB rfl (.tmp 9) (.tmp 23) rfl w1.heap.size rfl zeros zeros rfl rfl rfl (HasB.new w1 zeros _ rfl) ?_; intro w2 hs ht; have S2 := Aside0.mk (S1.out.stored hs ht); clear hs ht S1))
        | ((with_reducible refine gate_load47 (x := .tmp 9) rfl ?_); go_must (refine loadB rfl (.tmp 9) rfl w1.heap.size rfl zeros zeros_length (S2.out.has (w1.heap.size, zeros) (by simp)) ?_))
        | (go_at_call 47; ((with_reducible refine (lives05 _).mono ?_); rintro e w3 ⟨rfl, hb⟩; have S3 := Aside0.mk (S2.out.call hb); clear hb S2)))
      all_goals (go_ret; exact ⟨rfl, S3.out.below⟩)
    · obtain ⟨g1, g2, g3, g4, g5⟩ := putB_good n x un (by omega) (by omega)
      rw [g1] at F1
      have PG := Aside0.mk (fun i hi => pad_get x i hi (by omega))
      have PL := Aside0.mk (padL_length x (by omega))
      have GX := Aside0.mk (show getE (putB n x).1 = 0 by unfold getE; rw [if_pos g3, if_pos g4])
      have KP := Aside0.mk (keeps_pure (putB n x).1 X64 X8 g3 g4)
      generalize (putB n x).1 = X at *
      have G1 := Aside0.mk (show ∀ W, Calls Try.prog 40 #[.agg (cellsOf X)] W fun e w' => ∃ g, e = .returned (.tuple #[.int .u32 n, .slice (some ⟨g, 0, none⟩) 44 44, .int .i64 0]) ∧ Kd.C (Kd.int .u8) w' (some ⟨g, 0, none⟩) 44 (padL x) ∧ Below W.heap.size W w' by
        have h := getgood_calls X X64 X8 g3 g4 (padL x) g5 PL.out
        rw [g2 0 (by decide)] at h
        exact h)
      have G2 := Aside0.mk (show ∀ W, Calls Try.prog 43 #[.agg (cellsOf X)] W fun e w' => e = .returned (.int .u32 n) ∧ Below W.heap.size W w' by
        have h := greatest_calls X X64 X8
        rw [great_all X n (by omega) g2] at h
        exact h)
      replace X64 := Aside0.mk X64
      replace X8 := Aside0.mk X8
      replace F1 := Aside0.mk F1
      have HR := Aside0.mk hr
      have HC := Aside0.mk hc
      have UB := Aside0.mk ub
      have hle : (x.length : Int) ≤ 44 := by omega
      have hpos : 0 < n := by omega
      have H44 := Aside0.mk (show x.length ≤ 44 by omega)
      clear g1 g2 g3 g4 g5 hr hc hl h8 wn wa wb ub un h44 h1
      go_enter Try.func12, Try.ntmps12
      go_wp2_with (first
        | (go_at_call 38; ((with_reducible refine (F1.out _ S0.out.below).mono ?_); rintro e w1 ⟨rfl, hb⟩; have S1 := Aside0.mk (S0.out.call hb); clear hb S0))
        | ((with_reducible refine gate_store47 (x := .tmp 9) rfl ?_); go_must (refine storeB rfl (.tmp 9) (.tmp 23) rfl w1.heap.size rfl X zeros X64.out rfl rfl (HasB.new w1 zeros _ rfl) ?_; intro w2 hs ht; have S2 := Aside0.mk (S1.out.stored hs ht); have L1 := Aside0.mk S1.out.below.size; clear hs ht S1))
        | ((with_reducible refine gate_load47 (x := .tmp 9) rfl ?_); (try (refine gate_guard (by rfl) ?_; dsimp only)); go_must (refine loadB rfl (.tmp 9) rfl w1.heap.size rfl X X64.out (by first | exact S2.out.has (w1.heap.size, X) (by simp) | exact S3.out.has (w1.heap.size, X) (by simp)) ?_))
        | (go_at_call 40; ((with_reducible refine (G1.out _).mono ?_); rintro e w3 ⟨g, rfl, hC, hb⟩; have S3 := Aside0.mk (S2.out.call hb); have C3 := Aside0.mk hC; clear hb hC S2))
        | (go_at_call 43; ((with_reducible refine (G2.out _).mono ?_); rintro e w4 ⟨rfl, hb⟩; have S4 := Aside0.mk (S3.out.call hb); have C4 := Aside0.mk (Kd.C_below C3.out hb); clear hb S3 C3)))
      -- the byte that is changed
      obtain ⟨idx, hidx⟩ : ∃ i : Nat, (i : Int) = at_ % 64 := ⟨(at_ % 64).toNat, by omega⟩
      have hi64 : idx < 64 := by omega
      have HI := Aside0.mk hi64
      have hix : Go.bits .and .u8 at_ 63 = (idx : Int) := by rw [u8_and63, hidx]
      have hlt : (idx : Int) < 64 := by omega
      clear hidx hi64
      obtain ⟨y, hy⟩ : ∃ y, X[idx]'(by rw [X64.out]; exact HI.out) = y := ⟨_, rfl⟩
      have hy8 : U8 y := by rw [← hy]; exact X8.out _ (List.getElem_mem _)
      have hyx : X[idx]? = some y := by rw [List.getElem?_eq_getElem (by rw [X64.out]; exact HI.out), hy]
      obtain ⟨k8, kz⟩ := xor8 hy8 UB.out
      have K8 := Aside0.mk k8
      have KEY := Aside0.mk (show getE (X.set idx (Go.bits .xor .u8 y by_)) = 0 ↔ by_ = 0 from ⟨fun h => kz.1 (by have := KP.out idx HI.out _ k8 h; rw [hyx] at this; exact (Option.some.inj this).symm), fun h => by
        rw [kz.2 h]
        have : X.set idx y = X := by
          apply List.ext_getElem?
          intro k
          rw [List.getElem?_set]
          by_cases hk : idx = k
          · subst hk; rw [if_pos rfl, if_pos (by rw [X64.out]; exact HI.out), hyx]
          · rw [if_neg hk]
        rw [this]
        exact GX.out⟩)
      have hB := S4.out.has (w1.heap.size, X) (by simp)
      have hcell := hB.cell idx (by rw [X64.out]; exact HI.out)
      rw [hy] at hcell
      have hfz := hB.frozen idx
      have HB := Aside0.mk hB
      have HCELL := Aside0.mk hcell
      have HFZ := Aside0.mk hfz
      have HX4 := Aside0.mk (Kd.C_below HR.out S4.out.below)
      clear hB hcell hfz hyx hy8 hy k8 kz
      go_loopg [14] 44 (fun kq v14 w' => ∃ i : Nat, Aside0 (i + kq = 44) ∧ v14 = .int .i64 i ∧ w' = w4)
      case atStart => exact ⟨0, ⟨rfl⟩, rfl, rfl⟩
      case round =>
        obtain ⟨i, HQ, rfl, rfl⟩ := hrel
        cases gk with
        | zero =>
          have e := HQ.out
          obtain rfl : i = 44 := by omega
          have hcell := HCELL.out
          have hfz := HFZ.out
          have hset := HB.out.setCell idx (Go.bits .xor .u8 y by_)
          have S5 := Aside0.mk hset.1
          have B5 := Aside0.mk (hset.2.below S4.out.below L1.out)
          clear hset
          have X5 := Aside0.mk (show (X.set idx (Go.bits .xor .u8 y by_)).length = 64 by rw [List.length_set]; exact X64.out)
          have X58 := Aside0.mk (show Bytes (X.set idx (Go.bits .xor .u8 y by_)) from fun c hc => by
            rcases List.mem_or_eq_of_mem_set hc with hc | rfl
            · exact X8.out c hc
            · exact K8.out)
          go_wp2_with (first
            | ((with_reducible refine gate_load47 (x := .tmp 9) rfl ?_); go_must (refine loadB rfl (.tmp 9) rfl w1.heap.size rfl _ X5.out S5.out ?_))
            | (go_at_call 40; ((with_reducible refine (gete_calls _ X5.out X58.out _).mono ?_); rintro e w5 ⟨r, v, rfl, hb⟩; have B6 := Aside0.mk (below_step B5.out hb); clear hb))
            | (go_at_call 47; ((with_reducible refine (lives05 _).mono ?_); rintro e w6 ⟨rfl, hb⟩; have B7 := Aside0.mk (below_step B6.out hb); clear hb)))
          all_goals first
            | (go_ret; exact ⟨rfl, B7.out⟩)
            | (exfalso; rename_i hh; exact hh (by rw [Bool.eq_iff_iff, beq_iff_eq, beq_iff_eq]; exact KEY.out))
            | trace_state
        | succ k1 =>
          have c : (i : Int) < 44 := by have := HQ.out; omega
          have hi44 := Aside0.mk (show i < 44 by have := HQ.out; omega)
          obtain ⟨ad2, e2, hx2⟩ := Kd.at_int C4.out (i : Int) (by omega) c
          cases e2
          rw [Int.toNat_natCast, Go.WideShapes.add_plain, Nat.zero_add] at hx2
          by_cases hlx : (i : Int) < x.length
          · obtain ⟨ad1, e1, hx1⟩ := Kd.at_int HX4.out (i : Int) (by omega) hlx
            cases e1
            rw [Int.toNat_natCast] at hx1
            have hp := PG.out i hi44.out
            rw [if_pos (by omega)] at hp
            rw [hp] at hx2
            clear hp
            go_wp2
            go_roundg k1
            case measure => omega
            case rel => exact ⟨i + 1, ⟨by have := HQ.out; omega⟩, by go_num, rfl⟩
          · have hp := PG.out i hi44.out
            rw [if_neg (by omega)] at hp
            rw [hp] at hx2
            clear hp
            go_wp2
            go_roundg k1
            case measure => omega
            case rel => exact ⟨i + 1, ⟨by have := HQ.out; omega⟩, by go_num, rfl⟩
end Go.Proofs.Ytjenbffnpekbjaa.F
namespace Go.Proofs.Ytjenbffnpekbjaa.F
open Go.RowKit Go.Proofs.YtjenbffnpekbjaaW.PrintWords Go.Proofs.YtjenbffnpekbjaaW.PrintLast Go.Proofs.YtjenbffnpekbjaaW.PrintMore
set_option linter.unusedVariables false
/-- The mix, up to quarter q, and j bytes of it. -/
def mixJ (a b : List Int) (bits : Int) (q j : Nat) : List Int := lay (mixL a b bits q) (16 * q) ((quarterL b q).take j)
theorem mixJ_length (a b : List Int) (bits : Int) (ha : a.length = 64) (hb : b.length = 64) (q j : Nat) (hq : q < 4) : (mixJ a b bits q j).length = 64 := by
  have h1 := mixL_length a b bits ha hb q (by omega)
  have h2 := quarterL_length b q hb hq
  rw [mixJ, lay_length _ _ _ (by rw [List.length_take, h2, h1]; omega), h1]
theorem mixJ_zero (a b : List Int) (bits : Int) (q : Nat) : mixJ a b bits q 0 = mixL a b bits q := by simp [mixJ, lay]
theorem mixJ_succ (a b : List Int) (bits : Int) (ha : a.length = 64) (hb : b.length = 64) (q p : Nat) (hq : q < 4) (h1 : 16 * q ≤ p) (h2 : p < 16 * q + 16) (y : Int) (hy : b[p]? = some y) : (mixJ a b bits q (p - 16 * q)).set p y = mixJ a b bits q (p + 1 - 16 * q) := by
  have l1 := mixL_length a b bits ha hb q (by omega)
  have l2 := quarterL_length b q hb hq
  apply List.ext_getElem?
  intro i
  rw [List.getElem?_set, mixJ_length a b bits ha hb q _ hq, mixJ, mixJ, lay_get _ _ _ _ (by rw [List.length_take, l2, l1]; omega), lay_get _ _ _ _ (by rw [List.length_take, l2, l1]; omega), List.length_take, List.length_take, l2]
  by_cases hi : p = i
  · subst hi
    rw [if_pos rfl, if_pos (by omega), if_neg (by omega), if_pos (by omega), List.getElem?_take, if_pos (by omega), quarter_get, if_pos (by omega), ← hy]
    congr 1
    omega
  · rw [if_neg hi]
    by_cases h3 : i < 16 * q
    · rw [if_pos h3, if_pos h3]
    · rw [if_neg h3, if_neg h3]
      by_cases h4 : i < p
      · rw [if_pos (by omega), if_pos (by omega), List.getElem?_take, if_pos (by omega), List.getElem?_take, if_pos (by omega)]
      · rw [if_neg (by omega), if_neg (by omega)]
theorem mixJ_full (a b : List Int) (bits : Int) (hb : b.length = 64) (q : Nat) (hq : q < 4) (h : bitOn bits q = true) : mixJ a b bits q 16 = mixL a b bits (q + 1) := by
  rw [mixJ, List.take_of_length_le (by rw [quarterL_length b q hb hq]; exact Nat.le_refl _)]
  simp [mixL, h]
theorem bit_all : ∀ n : Fin 256, ∀ q : Fin 4, bitOn (n.val : Int) q.val = (((n.val : Int) / 2 ^ q.val).tmod 2 == 1) := by decide +kernel
theorem bit_test (bits : Int) (hu : U8 bits) (q : Nat) (hq : q < 4) : bitOn bits q = ((bits / 2 ^ q).tmod 2 == 1) := by
  obtain ⟨n, rfl⟩ := Int.eq_ofNat_of_zero_le hu.1
  exact bit_all ⟨n, by have := hu.2; omega⟩ ⟨q, hq⟩
set_option maxHeartbeats 1000000 in
theorem rmix_calls (a b : List Int) (bits : Int) (ha : a.length = 64) (hb : b.length = 64) (hu : U8 bits) (w : World) :
    Calls Try.prog 46 #[.agg (cellsOf a), .agg (cellsOf b), .int .u8 bits] w fun e w' => e = .returned (.agg (cellsOf (mixL a b bits 4))) ∧ Below w.heap.size w w' := by
  have HA := Aside0.mk ha
  have HB := Aside0.mk hb
  have ML := Aside0.mk (mixL_length a b bits ha hb)
  have MJ := Aside0.mk (mixJ_length a b bits ha hb)
  have BT := Aside0.mk (bit_test bits hu)
  clear ha hb hu
  go_enter Try.func46, Try.ntmps46
  go_wp2
  go_loopg [7] 4 (fun kq v7 w' => ∃ q : Nat, Aside0 (q + kq = 4) ∧ v7 = .int .i64 q ∧ Aside0 (HasB w' w.heap.size (mixL a b bits q)) ∧ Aside0 (HasB w' (w.heap.size + 1) b) ∧ Aside0 (∃ z, z.length = 64 ∧ HasB w' (w.heap.size + 1 + 1) z) ∧ Aside0 (Below w.heap.size w w'))
  case atStart =>
    obtain ⟨h1, h2, h3, h4⟩ := start3 w a b _ rfl
    exact ⟨0, ⟨rfl⟩, rfl, ⟨h1⟩, ⟨h2⟩, ⟨_, rfl, h3⟩, ⟨h4⟩⟩
  case round =>
    obtain ⟨q, HQ, rfl, H1, H2, H3, HW⟩ := hrel
    cases gk with
    | zero =>
      have e := HQ.out
      obtain rfl : q = 4 := by omega
      obtain ⟨z, hz, h3⟩ := H3.out
      have HZ := Aside0.mk hz
      have H3' := Aside0.mk h3
      clear hz h3
      go_wp2_with (first
        | ((with_reducible refine gate_load47 rfl ?_); refine loadB rfl (.tmp 3) rfl w.heap.size rfl _ (ML.out 4 (Nat.le_refl _)) H1.out ?_)
        | ((with_reducible refine gate_store47 rfl ?_); refine storeB rfl (.tmp 6) (.tmp 35) rfl (w.heap.size + 1 + 1) rfl _ z (ML.out 4 (Nat.le_refl _)) HZ.out rfl H3'.out ?_; intro w1 hs ht))
      refine bodyPost_ret (run_result1 (p := 6) rfl _ _ (w.heap.size + 1 + 1) _ (ML.out 4 (Nat.le_refl _)) rfl hs) rfl ?_
      exact ⟨rfl, ht.below HW.out (by omega)⟩
    | succ k1 =>
      have c : (q : Int) < 4 := by have := HQ.out; omega
      have HQ4 := Aside0.mk (show q < 4 by have := HQ.out; omega)
      go_wp2
      go_loopg [8] 16 (fun kp v8 W' => ∃ p : Nat, Aside0 (p + kp = 16 * q + 16 ∧ 16 * q ≤ p) ∧ v8 = .int .i64 p ∧ Aside0 (bitOn bits q = false → p = 16 * q) ∧ Aside0 (HasB W' w.heap.size (mixJ a b bits q (p - 16 * q))) ∧ Aside0 (HasB W' (w.heap.size + 1) b) ∧ Aside0 (∃ z, z.length = 64 ∧ HasB W' (w.heap.size + 1 + 1) z) ∧ Aside0 (Below w.heap.size w W'))
      case atStart => exact ⟨16 * q, ⟨rfl, Nat.le_refl _⟩, by go_num, ⟨fun _ => rfl⟩, ⟨by rw [Nat.sub_self, mixJ_zero]; exact H1.out⟩, H2, H3, HW⟩
      case round =>
        clear H1 H2 H3 HW
        obtain ⟨p, HP, rfl, HF, J1, J2, J3, JW⟩ := hrel
        have c0 : (0 : Int) ≤ p := by omega
        cases hon : bitOn bits q
        · have c1 : (p : Int) < 16 * (q : Int) + 16 := by have := HF.out hon; omega
          have ht : ((bits / 2 ^ q).tmod 2 == 1) = false := by rw [← BT.out q HQ4.out]; exact hon
          have HP16 := Aside0.mk (HF.out hon)
          have HON := Aside0.mk hon
          clear hon HF
          go_wp2
          go_roundg k1
          case measure => omega
          case rel => exact ⟨q + 1, ⟨by have := HQ.out; omega⟩, by go_num, ⟨by rw [show mixL a b bits (q + 1) = mixJ a b bits q (p - 16 * q) by rw [HP16.out, Nat.sub_self, mixJ_zero]; simp [mixL, HON.out]]; exact J1.out⟩, J2, J3, JW⟩
        · have ht : ((bits / 2 ^ q).tmod 2 == 1) = true := by rw [← BT.out q HQ4.out]; exact hon
          have HON := Aside0.mk hon
          clear hon HF
          cases gk with
          | zero =>
            have e := HP.out
            have HPE := Aside0.mk (show p - 16 * q = 16 by omega)
            have c1 : ¬ (p : Int) < 16 * (q : Int) + 16 := by omega
            go_wp2
            go_roundg k1
            case measure => omega
            case rel => exact ⟨q + 1, ⟨by have := HQ.out; omega⟩, by go_num, ⟨by rw [← mixJ_full a b bits HB.out q HQ4.out HON.out, ← HPE.out]; exact J1.out⟩, J2, J3, JW⟩
          | succ kp =>
            have c1 : (p : Int) < 16 * (q : Int) + 16 := by have := HP.out; omega
            have c2 : (p : Int) < 64 := by have := HQ4.out; omega
            have hp64 : p < 64 := by omega
            have hcell := J2.out.cell p (by rw [HB.out]; exact hp64)
            have hcella := J1.out.cell p (by rw [MJ.out q _ HQ4.out]; exact hp64)
            have hfz := J1.out.frozen p
            have PG := Aside0.mk HP.out.2
            have HY := Aside0.mk (show b[p]? = some (b[p]'(by rw [HB.out]; exact hp64)) from List.getElem?_eq_getElem _)
            generalize b[p]'(by rw [HB.out]; exact hp64) = y at *
            generalize (mixJ a b bits q (p - 16 * q))[p]'(by rw [MJ.out q _ HQ4.out]; exact hp64) = z0 at *
            have ST := Aside0.mk (J1.out.setCell p y)
            go_wp2
            go_roundg kp
            case measure => omega
            case rel =>
              obtain ⟨z, hz, h3⟩ := J3.out
              have hm := ST.out.1
              have ht := ST.out.2
              rw [mixJ_succ a b bits HA.out HB.out q p HQ4.out PG.out (by have := HP.out; omega) y HY.out] at hm
              exact ⟨p + 1, ⟨by have := HP.out; omega⟩, by go_num, ⟨fun h => by rw [HON.out] at h; cases h⟩, ⟨hm⟩, ⟨J2.out.turn ht (by omega)⟩, ⟨z, hz, h3.turn ht (by omega)⟩, ⟨ht.below JW.out (Nat.le_refl _)⟩⟩
end Go.Proofs.Ytjenbffnpekbjaa.F
namespace Go.Proofs.Ytjenbffnpekbjaa.F
open Go.RowKit Go.Proofs.YtjenbffnpekbjaaW.PrintWords Go.Proofs.YtjenbffnpekbjaaW.PrintLast Go.Proofs.YtjenbffnpekbjaaW.PrintMore
set_option linter.unusedVariables false
/-- A row of bytes, of which 44 are known to be bytes. -/
def Row44 (w : World) (g : Nat) : Prop := ∃ (cur : Array Value) (ys : List Int), w.heap[g]? = some (.cells cur 5 (0, 0)) ∧ ys.length = 44 ∧ cur.toList.take 44 = ys.map (Value.int .u8)
theorem Turn.refl (g : Nat) (w : World) : Turn g w w := ⟨rfl, rfl, rfl, rfl, fun _ _ => rfl⟩
theorem Turn.trans {g : Nat} {w w1 w2 : World} (h : Turn g w w1) (h2 : Turn g w1 w2) : Turn g w w2 :=
  ⟨h2.os.trans h.os, h2.tape.trans h.tape, h2.output.trans h.output, h2.size.trans h.size, fun k hk => (h2.other k hk).trans (h.other k hk)⟩
theorem Row44.cell {w : World} {g : Nat} (h : Row44 w g) (i : Nat) (hi : i < 44) : ∃ y, w.cell? ⟨g, i, none⟩ = some (.int .u8 y) := by
  obtain ⟨cur, ys, hg, hl, ht⟩ := h
  have e := congrArg (fun l => l[i]?) ht
  simp only [List.getElem?_take, if_pos hi, List.getElem?_map] at e
  refine ⟨ys[i]'(by omega), (cell_of_row w g i _ 5 (0, 0) hg).trans ?_⟩
  rw [← Array.getElem?_toList, e, List.getElem?_eq_getElem (by omega)]
  rfl
theorem Row44.frozen {w : World} {g : Nat} (h : Row44 w g) (i : Nat) : w.frozen? ⟨g, i, none⟩ = false := by
  obtain ⟨cur, ys, hg, _, _⟩ := h
  simp [World.frozen?, hg]
theorem Row44.lt {w : World} {g : Nat} (h : Row44 w g) : g < w.heap.size := by
  obtain ⟨cur, ys, hg, _, _⟩ := h
  rcases Nat.lt_or_ge g w.heap.size with h1 | h1
  · exact h1
  · rw [Array.getElem?_eq_none h1] at hg; cases hg
theorem Row44.setCell {w : World} {g : Nat} (h : Row44 w g) (i : Nat) (hi : i < 44) (y : Int) : Row44 (w.setCell ⟨g, i, none⟩ (.int .u8 y)) g ∧ Turn g w (w.setCell ⟨g, i, none⟩ (.int .u8 y)) := by
  have hlt := h.lt
  obtain ⟨cur, ys, hg, hl, ht⟩ := h
  refine ⟨⟨cur.setIfInBounds i (.int .u8 y), ys.set i y, ?_, by rw [List.length_set]; exact hl, ?_⟩, rfl, rfl, rfl, by simp [World.setCell], fun k hk => ?_⟩
  · unfold World.setCell
    simp only [Array.getElem?_modify, if_pos, hg, Option.map_some]
    rfl
  · rw [Array.toList_setIfInBounds, List.take_set, ht, List.map_set]
  · simp only [World.setCell, Array.getElem?_modify]
    rw [if_neg (fun e : g = k => hk e.symm)]
set_option maxHeartbeats 400000 in
theorem spoil_calls (g : Nat) (w : World) (h : Row44 w g) :
    Calls Try.prog 42 #[.slice (some ⟨g, 0, none⟩) 44 44, .int .u8 3] w fun e w' => e = .returned (.tuple #[]) ∧ Turn g w w' := by
  have hs1 : ∀ W : World, (Instr.slice 23 (.slice (some ⟨g, 0, none⟩) 44 44) none (some (.int .i64 44)) (some (.int .i64 44))).run Try.prog W = .ok (.slice (some ⟨g, 0, none⟩) 44 44) W := by
    intro W
    rw [run_slice_hm W 23 _ 44 44 Try.underlying23 .i64 .i64 44 44 (by decide) (by decide) (by omega)]
    have hs : (sizeOf (Try.prog.elem 23)).run Try.prog W = .ok 1 W := by kernel_rfl
    rw [hs]
    simp [Result.andThen, sliced, Addr.add]
  have H := Aside0.mk h
  clear h
  go_enter Try.func42, Try.ntmps42
  go_wp2
  go_loopg [5] 44 (fun k v5 w' => ∃ i : Nat, Aside0 (i + k = 44) ∧ v5 = .int .i64 i ∧ Aside0 (Row44 w' g) ∧ Aside0 (Turn g w w'))
  case atStart => exact ⟨0, ⟨rfl⟩, rfl, H, ⟨Turn.refl g w⟩⟩
  case round =>
    clear H
    obtain ⟨i, HI, rfl, H, HT⟩ := hrel
    cases gk with
    | zero =>
      have e := HI.out
      obtain rfl : i = 44 := by omega
      go_wp2
      go_end0
      exact ⟨rfl, HT.out⟩
    | succ k1 =>
      have c : (i : Int) < 44 := by have := HI.out; omega
      have c0 : (0 : Int) ≤ i := by omega
      have H44 := Aside0.mk (show i < 44 by omega)
      obtain ⟨y, hy⟩ := H.out.cell i H44.out
      have hf := H.out.frozen i
      go_wp2
      go_roundg k1
      case measure => omega
      case rel => exact ⟨i + 1, ⟨by have := HI.out; omega⟩, by go_num, ⟨(H.out.setCell i H44.out _).1⟩, ⟨HT.out.trans (H.out.setCell i H44.out _).2⟩⟩
set_option maxHeartbeats 400000 in
theorem spoil_nil (w : World) :
    Calls Try.prog 42 #[.slice none 0 0, .int .u8 3] w fun e w' => e = .returned (.tuple #[]) ∧ w = w' := by
  have hs1 : ∀ W : World, (Instr.slice 23 (.slice none 0 0) none (some (.int .i64 0)) (some (.int .i64 0))).run Try.prog W = .ok (.slice none 0 0) W := by
    intro W
    rw [run_slice_hm W 23 _ 0 0 Try.underlying23 .i64 .i64 0 0 (by decide) (by decide) (by omega)]
    have hs : (sizeOf (Try.prog.elem 23)).run Try.prog W = .ok 1 W := by kernel_rfl
    rw [hs]
    simp [Result.andThen, sliced]
  go_enter Try.func42, Try.ntmps42
  go_wp2
  go_loopg [5] 1 (fun k v5 w' => v5 = .int .i64 0 ∧ w = w')
  case atStart => exact ⟨rfl, rfl⟩
  case round =>
    obtain ⟨rfl, rfl⟩ := hrel
    go_wp2
    go_end0
    exact ⟨rfl, rfl⟩
end Go.Proofs.Ytjenbffnpekbjaa.F
namespace Go.Proofs.Ytjenbffnpekbjaa.F
open Go.RowKit Go.Proofs.YtjenbffnpekbjaaW.PrintWords Go.Proofs.YtjenbffnpekbjaaW.PrintLast Go.Proofs.YtjenbffnpekbjaaW.PrintMore
set_option linter.unusedVariables false
/-- The first i of a list, and 0s behind them. -/
def fillL (N : Nat) (X : List Int) (i : Nat) : List Int := X.take i ++ List.replicate (N - i) 0
theorem fill_length (N : Nat) (X : List Int) (i : Nat) (h1 : i ≤ X.length) (h2 : i ≤ N) : (fillL N X i).length = N := by simp [fillL]; omega
theorem fill_succ (N : Nat) (X : List Int) (i : Nat) (y : Int) (h2 : i < N) (hy : X[i]? = some y) : (fillL N X i).set i y = fillL N X (i + 1) := by
  have h1 : i < X.length := by
    rcases Nat.lt_or_ge i X.length with h | h
    · exact h
    · rw [List.getElem?_eq_none h] at hy; cases hy
  apply List.ext_getElem?
  intro k
  rw [List.getElem?_set, fill_length N X i (by omega) (by omega)]
  simp only [fillL, List.getElem?_append, List.length_take, List.getElem?_take, List.getElem?_replicate]
  have e1 : min i X.length = i := by omega
  have e2 : min (i + 1) X.length = i + 1 := by omega
  rw [e1, e2]
  by_cases hk : i = k
  · subst hk
    simp [h2, hy]
  · by_cases h3 : k < i
    · simp [hk, h3, show k < i + 1 by omega]
    · have h4 : ¬ k < i + 1 := by omega
      by_cases h5 : k < N
      · simp [hk, h3, h4, show k - i < N - i by omega, show k - (i + 1) < N - (i + 1) by omega]
      · simp [hk, h3, h4, show ¬ k - i < N - i by omega, show ¬ k - (i + 1) < N - (i + 1) by omega]
theorem fill_zero (N : Nat) (X : List Int) : fillL N X 0 = List.replicate N 0 := by simp [fillL]
theorem fill_all (N : Nat) (X : List Int) (h : X.length = N) : fillL N X N = X := by simp [fillL, List.take_of_length_le (Nat.le_of_eq h)]
theorem fill_pad (x : List Int) : fillL 44 x x.length = padL x := by simp [fillL, padL]
theorem blk_elem (n : Int) (all : List Int) (h : all.length = 48) (i : Nat) (hi : i < 64) : (blkL n all 4)[i]? = if i % 16 < 4 then (bs n 4)[i % 16]? else all[i / 16 * 12 + i % 16 - 4]? := by
  have e := congrArg (fun l => l[i % 16]?) (blk_quarter4 n all h (i / 16) (by omega))
  simp only [quarter_get, if_pos (show i % 16 < 16 by omega), show 16 * (i / 16) + i % 16 = i by omega] at e
  rw [e, List.getElem?_append, bs4_length]
  by_cases h4 : i % 16 < 4
  · rw [if_pos h4, if_pos h4]
  · rw [if_neg h4, if_neg h4, List.getElem?_take, if_pos (by omega), List.getElem?_drop]
    congr 1
    omega
theorem blkT_cell {w : World} {g : Nat} {l : List Int} {t : TypeId} (h : w.heap[g]? = some (.cells (cellsOf l) t (0, 0))) (i : Nat) (hi : i < l.length) : w.cell? ⟨g, i, none⟩ = some (.int .u8 l[i]) :=
  (cell_of_row w g i _ t (0, 0) h).trans (cellsOf_at l i hi)
theorem blkT_frozen {w : World} {g : Nat} {l : List Int} {t : TypeId} (h : w.heap[g]? = some (.cells (cellsOf l) t (0, 0))) (i : Nat) : w.frozen? ⟨g, i, none⟩ = false := by
  simp [World.frozen?, h]
theorem blkT_lt {w : World} {g : Nat} {o : Obj} (h : w.heap[g]? = some o) : g < w.heap.size := by
  rcases Nat.lt_or_ge g w.heap.size with h1 | h1
  · exact h1
  · rw [Array.getElem?_eq_none h1] at h; cases h
theorem blkT_setCell {w : World} {g : Nat} {l : List Int} {t : TypeId} (h : w.heap[g]? = some (.cells (cellsOf l) t (0, 0))) (i : Nat) (c : Int) : (w.setCell ⟨g, i, none⟩ (.int .u8 c)).heap[g]? = some (.cells (cellsOf (l.set i c)) t (0, 0)) ∧ Turn g w (w.setCell ⟨g, i, none⟩ (.int .u8 c)) := by
  have hlt := blkT_lt h
  refine ⟨?_, rfl, rfl, rfl, by simp [World.setCell], fun k hk => ?_⟩
  · unfold World.setCell
    simp only [Array.getElem?_modify, if_pos, h, Option.map_some]
    simp [cellsOf, List.map_set]
  · simp only [World.setCell, Array.getElem?_modify]
    rw [if_neg (fun e : g = k => hk e.symm)]
def z44 : List Int := List.replicate 44 0
theorem make44b (w : World) : (Instr.makeSlice 23 (.int .i64 44) (.int .i64 44)).run Try.prog w = .ok (.slice (some ⟨w.heap.size, 0, none⟩) 44 44) (w.alloc (.cells (cellsOf z44) 5)) := by
  obtain ⟨i, hi, hz⟩ := Option.map_eq_some_iff.1 info5
  simp only [Prod.mk.injEq] at hz
  have h := run_make (P := Try.prog) w 23 5 i (.int .u8 0) Try.underlying23 hi hz.1 .i64 .i64 44 44 (by decide) (by decide) (by rw [hz.2.2]; decide) (by decide)
  rw [h, hz.2.1]
  have e : madeCells (Value.int .u8 0).cells (Int.toNat 44 * 1) = cellsOf z44 := by kernel_rfl
  rw [e]
  rfl
theorem rput_start (w : World) (zs : Array Value) (hz : zs = cellsOf zeros) :
    HasB ((w.alloc (.cells zs 47)).alloc (.cells (cellsOf z44) 5)) w.heap.size zeros ∧ ((w.alloc (.cells zs 47)).alloc (.cells (cellsOf z44) 5)).heap[w.heap.size + 1]? = some (.cells (cellsOf z44) 5 (0, 0)) ∧ Below w.heap.size w ((w.alloc (.cells zs 47)).alloc (.cells (cellsOf z44) 5)) := by
  subst hz
  refine ⟨(HasB.new w zeros _ rfl).alloc _, HasB5 w _ z44, ((Below.refl _ w).alloc (Nat.le_refl _) _).alloc (by simp) _⟩
theorem own_blk {w : World} {g : Nat} {l : List Int} (h : w.heap[g]? = some (.cells (cellsOf l) 5 (0, 0))) (hl : l.length = 44) : w.ownsRow g 5 1 (.slice (some ⟨g, 0, none⟩) 44 44) l.length (encs (Value.int .u8) l) := by
  rw [hl]
  refine ⟨by simp [encs, hl], .inr ⟨g, 44, _, rfl, Nat.le_refl _, h, by decide, by decide, by rw [size_cellsOf, hl], ?_⟩⟩
  rw [List.take_of_length_le (by simp [cellsOf, hl])]
  simp [cellsOf, encs]
theorem rput_num (y : Int) (w : World) (hy : U32 y) : Calls Try.prog 27 #[.int .u64 y, .int .i64 4] w fun e w' => ∃ g c, e = .returned (.tuple #[.slice (some ⟨g, 0, none⟩) 4 c, .int .i64 0]) ∧ w.heap.size ≤ g ∧ 4 ≤ c ∧ Kd.C (Kd.int .u8) w' (some ⟨g, 0, none⟩) 4 (bs y 4) ∧ Below w.heap.size w w' := by
  have e : wharfageref01_Put.f 12 y 4 = some (bs y 4, 0) := by
    rw [ref_put_eq y 4 (by unfold U64; unfold U32 at hy; omega)]
    have : y < top 4 := by unfold U32 at hy; simp [top]; omega
    simp [putR, IsSz, this]
  refine (wharfageref01_Put.calls 12 y 4 _ _ w e).mono ?_
  rintro e w' ⟨v0, rfl, h0, hb⟩
  obtain ⟨g0, c0, rfl, a1, a2, a3⟩ := own_at (Kd.own_of_R h0) (bs4_length y) (by decide)
  exact ⟨g0, c0, rfl, a1, a2, a3, hb⟩
set_option maxHeartbeats 2000000 in
theorem rput_calls (n : Int) (A1 : Option Addr) (c1 m : Nat) (x : List Int) (w : World) (hn : U32 n) (hx : x.length = m) (hl : m ≤ 140737488351232) (hr : Kd.C (Kd.int .u8) w A1 m x) (h8 : Bytes x) (hc : m ≤ c1) :
    Calls Try.prog 39 #[.int .u32 n, .slice A1 m c1] w fun e w' => e = .returned (.tuple #[.agg (cellsOf (putB n x).1), .int .i64 (putB n x).2]) ∧ Below w.heap.size w w' := by
  have HX := Aside0.mk hx
  have HN := Aside0.mk hn
  have HR := Aside0.mk hr
  have HC := Aside0.mk hc
  have H8 := Aside0.mk h8
  have hn0 : 0 ≤ n := hn.1
  have hn1 : n < 4294967296 := hn.2
  clear hx hn hr hc h8
  have HM := make44b
  go_enter Try.func39, Try.ntmps39
  by_cases h44 : (m : Int) > 44
  · have e : putB n x = (zeros, 3) := by unfold putB; rw [if_pos (by have := HX.out; omega)]
    rw [e]
    go_wp2_with (first
        | ((with_reducible refine gate_store47 rfl ?_); go_must (refine storeB rfl (.tmp 4) (.tmp 17) rfl w.heap.size rfl zeros zeros rfl rfl rfl (HasB.new w zeros _ rfl) ?_; intro w1 hs ht; have HS := Aside0.mk hs; have HT := Aside0.mk ht; clear hs ht)))
    refine bodyPost_ret (run_result2 (p := 4) (u := 5) rfl _ _ w.heap.size zeros rfl rfl HS.out) rfl ?_
    exact ⟨rfl, HT.out.below (below_alloc (Below.refl w.heap.size w) _) (Nat.le_refl _)⟩
  · by_cases h1 : n = 0
    · have e : putB n x = (zeros, 2) := by unfold putB; rw [if_neg (by have := HX.out; omega), if_pos (by omega)]
      rw [e]
      subst h1
      go_wp2_with (first
        | ((with_reducible refine gate_store47 rfl ?_); go_must (refine storeB rfl (.tmp 4) (.tmp 20) rfl w.heap.size rfl zeros zeros rfl rfl rfl (HasB.new w zeros _ rfl) ?_; intro w1 hs ht; have HS := Aside0.mk hs; have HT := Aside0.mk ht; clear hs ht)))
      refine bodyPost_ret (run_result2 (p := 4) (u := 5) rfl _ _ w.heap.size zeros rfl rfl HS.out) rfl ?_
      exact ⟨rfl, HT.out.below (below_alloc (Below.refl w.heap.size w) _) (Nat.le_refl _)⟩
    · have e : putB n x = (blkL n (allL n x) 4, 0) := by unfold putB; rw [if_neg (by have := HX.out; omega), if_neg (by omega)]
      rw [e]
      have h1b : (n == 0) = false := by simpa using h1
      have hm44 : m ≤ 44 := by omega
      have H44 := Aside0.mk hm44
      have HPL := Aside0.mk (padL_length x (by have := HX.out; omega))
      have HAL := Aside0.mk (allL_length n x (by have := HX.out; omega))
      have HPB := Aside0.mk (pad_bytes x H8.out)
      clear h1
      go_wp2
      go_loopg [7] m (fun k v7 w' => ∃ i : Nat, Aside0 (i + k = m) ∧ v7 = .int .i64 i ∧ Aside0 (HasB w' w.heap.size zeros) ∧ Aside0 (w'.heap[w.heap.size + 1]? = some (.cells (cellsOf (fillL 44 x i)) 5 (0, 0))) ∧ Aside0 (Below w.heap.size w w'))
      case atStart =>
        obtain ⟨h1, h2, h3⟩ := rput_start w _ rfl
        exact ⟨0, ⟨Nat.zero_add _⟩, rfl, ⟨h1⟩, ⟨by rw [fill_zero]; exact h2⟩, ⟨h3⟩⟩
      case round =>
        obtain ⟨i, HI, rfl, K1, K2, K3⟩ := hrel
        cases gk with
        | succ k1 =>
          have c : (i : Int) < m := by have := HI.out; omega
          have c0 : (0 : Int) ≤ i := by omega
          have c44 : (i : Int) < 44 := by omega
          have HIm := Aside0.mk (show i < m by omega)
          obtain ⟨ad1, e1, hx1⟩ := Kd.at_int (Kd.C_below HR.out K3.out) (i : Int) (by omega) c
          cases e1
          rw [Int.toNat_natCast] at hx1
          have HY := Aside0.mk (show x[i]? = some (rd x (i : Int)) by rw [rd_lt x i (by have := HX.out; have := HIm.out; omega)]; exact List.getElem?_eq_getElem _)
          generalize rd x (i : Int) = y at *
          have HFL := Aside0.mk (fill_length 44 x i (by have := HX.out; have := HIm.out; omega) (by have := HIm.out; have := H44.out; omega))
          have hcell := blkT_cell K2.out i (by rw [HFL.out]; have := HIm.out; have := H44.out; omega)
          have hfz := blkT_frozen K2.out i
          generalize (fillL 44 x i)[i]'(by rw [HFL.out]; have := HIm.out; have := H44.out; omega) = z0 at *
          have ST := Aside0.mk (blkT_setCell K2.out i y)
          go_wp2
          go_roundg k1
          case measure => omega
          case rel => exact ⟨i + 1, ⟨by have := HI.out; omega⟩, by go_num, ⟨K1.out.turn ST.out.2 (by omega)⟩, ⟨by rw [← fill_succ 44 x i y (by have := HIm.out; have := H44.out; omega) HY.out]; exact ST.out.1⟩, ⟨ST.out.2.below K3.out (by omega)⟩⟩
        | zero =>
          have e := HI.out
          obtain rfl : i = m := by omega
          have K4 := Aside0.mk (show wr.heap[w.heap.size + 1]? = some (.cells (cellsOf (padL x)) 5 (0, 0)) by have := K2.out; rw [← HX.out, fill_pad] at this; exact this)
          have K5 := Aside0.mk (own_blk K4.out HPL.out)
          have K6 := Aside0.mk (own_at K5.out HPL.out (by decide))
          have un : IntKind.u64.wrap n = n := by rw [IntKind.wrap_u64]; omega
          have hs := K6.out
          clear K2 K5 K6
          obtain ⟨gx, cx, ex, _, hcx, hCx⟩ := hs
          injection ex with ex1 ex2 ex3
          injection ex1 with ex1
          injection ex1 with ex1
          subst ex1
          subst ex3
          clear ex2 e
          have K6 := Aside0.mk hCx
          clear hCx
          have KO := Aside0.mk (own_blk K4.out HPL.out)
          have HF := Aside0.mk (fnv_range n (padL x))
          have hF0 : 0 ≤ fnv n (padL x) := HF.out.1
          have hF1 : fnv n (padL x) < 4294967296 := HF.out.2
          generalize hfe : fnv n (padL x) = F at *
          have HFE := Aside0.mk hfe
          clear hfe
          have uF : IntKind.u64.wrap F = F := by rw [IntKind.wrap_u64]; omega
          have KS := Aside0.mk K3.out.size
          go_wp2_with (first
            | (go_at_call 27; ((with_reducible refine (rput_num n _ HN.out).mono ?_); rintro e w1 ⟨g0, c0, rfl, hg0, hc0, hC0, hb⟩; have L1 := Aside0.mk (K1.out.below hb); have L2 := Aside0.mk (below_step K3.out hb); have L3 := Aside0.mk (Kd.C_below K6.out hb); have L4 := Aside0.mk hC0; have L5 := Aside0.mk (pw_own_below KO.out hb); have L6 := Aside0.mk (show w.heap.size + 1 < g0 by have := blkT_lt K4.out; omega); have L7 := Aside0.mk (show w.heap.size + 1 < w1.heap.size by have := blkT_lt K4.out; have := hb.size; omega); clear hg0 hc0 hC0 hb))
            | (go_at_call 58; ((with_reducible refine (rsum_at n _ 44 44 (padL x) _ HN.out HPB.out HPL.out (by decide) L3.out (by decide)).mono ?_); rw [HFE.out]; rintro e w2 ⟨rfl, hb⟩; have M1 := Aside0.mk (L1.out.below hb); have M2 := Aside0.mk (below_step L2.out hb); have M3 := Aside0.mk (Kd.C_below L3.out hb); have M4 := Aside0.mk (Kd.C_below L4.out hb); have M5 := Aside0.mk (pw_own_below L5.out hb); have M7 := Aside0.mk (Nat.lt_of_lt_of_le L7.out hb.size); clear hb))
            | (go_at_call 27; ((with_reducible refine (rput_num F _ HF.out).mono ?_); rintro e w3 ⟨g1, c2, rfl, hg1, hc2, hC1, hb⟩; have N1 := Aside0.mk (M1.out.below hb); have N2 := Aside0.mk (below_step M2.out hb); have N4 := Aside0.mk (Kd.C_below M4.out hb); have N5 := Aside0.mk (pw_own_below M5.out hb); have N6 := Aside0.mk hC1; have N7 := Aside0.mk (Nat.lt_of_lt_of_le M7.out hb.size); clear hg1 hc2 hC1 hb))
            | ((with_reducible refine gate_builtin (b := .append) (xs := #[.tmp 49, .tmp 50]) rfl ?_); at_builtin; go_must (refine print_append_row_of (w0 := w3) (Value.int .u8) (0 : Int) (w.heap.size + 1) rfl (.tmp 49) (.tmp 50) 23 5 (.int .u8 0) 1 rfl Try.underlying23 info5 rfl (by decide) (fun _ => rfl) _ (padL x) (bs F 4) _ _ _ rfl rfl ?o1 ?r1 ?b1 ?s1 ?l1 ?_; (case o1 => exact N5.out); (case r1 => exact Kd.reads_of_C N6.out); (case b1 => exact Below.refl _ _); (case s1 => exact Nat.le_of_lt N7.out); (case l1 => rw [HPL.out]; decide); intro v4 w4 ho hB hg hat; obtain ⟨g4, c4, e4, hg4, hc4, hC4⟩ := own_at ho (show (padL x ++ bs F 4).length = 48 by rw [List.length_append, HPL.out, bs4_length]) (by decide); subst e4; have hg0 := L6.out; have hbb := C_block N4.out (by decide); have O1 := Aside0.mk (show HasB w4 w.heap.size zeros from (hB.block w.heap.size (by omega)).trans N1.out); have O2 := Aside0.mk (show Below w.heap.size w w4 from N2.out.trans ⟨hB.os, hB.tape, hB.output, hB.size, fun k hk => hB.block k (by omega)⟩); have O4 := Aside0.mk (C_grown N4.out hg (show some g0 ≠ some (w.heap.size + 1) from fun hh => by injection hh; omega) hbb); have O5 := Aside0.mk hC4; have O6 := Aside0.mk (Nat.lt_of_lt_of_le N7.out hB.size); have O7 := Aside0.mk (C_block hC4 (by decide)); have O8 := Aside0.mk (C_block O4.out (by decide)); have O9 := Aside0.mk hc4; clear ho hB hg hat hg0 hbb hg4 hc4 hC4)))
          have O5' := Aside0.mk (show Kd.C (Kd.int .u8) w4 (some ⟨g4, 0, none⟩) 48 (allL n x) by have := O5.out; rw [← HFE.out] at this; exact this)
          have BE := Aside0.mk (fun p hp => blk_elem n (allL n x) HAL.out p hp)
          have BL := Aside0.mk (blkL_length n (allL n x) HAL.out 4 (Nat.le_refl _))
          have OH := Aside0.mk (show w.heap.size < w4.heap.size from by have := O6.out; omega)
          clear hF0 hF1 uF un O5 O6 hm44 h44
          generalize hall : allL n x = all at *
          have HALL := Aside0.mk hall
          clear hall
          generalize hXe : blkL n all 4 = X at *
          have HXE := Aside0.mk hXe
          clear hXe
          go_loopg [13] 64 (fun k v13 w' => ∃ p : Nat, Aside0 (p + k = 64) ∧ v13 = .int .i64 p ∧ Aside0 (HasB w' w.heap.size zeros) ∧ Aside0 (HasB w' w4.heap.size (fillL 64 X p)) ∧ Aside0 (Kd.C (Kd.int .u8) w' (some ⟨g0, 0, none⟩) 4 (bs n 4)) ∧ Aside0 (Kd.C (Kd.int .u8) w' (some ⟨g4, 0, none⟩) 48 all) ∧ Aside0 (Below w.heap.size w w'))
          case atStart =>
            exact ⟨0, ⟨rfl⟩, rfl, ⟨O1.out.alloc _⟩, ⟨by rw [fill_zero]; exact HasB.new w4 zeros _ rfl⟩, ⟨Kd.C_alloc O4.out _⟩, ⟨Kd.C_alloc O5'.out _⟩, ⟨below_alloc O2.out _⟩⟩
          case round =>
            clear O1 O2 O4 O5'
            obtain ⟨p, HP, rfl, R1, R2, R3, R4, R5⟩ := hrel
            cases gk with
            | zero =>
              have e := HP.out
              obtain rfl : p = 64 := by omega
              have R2' := Aside0.mk (show HasB wr w4.heap.size X by have := R2.out; rw [fill_all 64 X BL.out] at this; exact this)
              clear R2 e
              go_wp2_with (first
                | ((with_reducible refine gate_load47 rfl ?_); go_must (refine loadB rfl (.tmp 12) rfl w4.heap.size rfl X BL.out R2'.out ?_))
                | ((with_reducible refine gate_store47 rfl ?_); go_must (refine storeB rfl (.tmp 4) (.tmp 78) rfl w.heap.size rfl X zeros BL.out rfl rfl R1.out ?_; intro w5 hs ht; have HS := Aside0.mk hs; have HT := Aside0.mk ht; clear hs ht)))
              refine bodyPost_ret (run_result2 (p := 4) (u := 5) rfl _ _ w.heap.size X BL.out rfl HS.out) rfl ?_
              exact ⟨by rw [HALL.out, HXE.out]; rfl, HT.out.below R5.out (Nat.le_refl _)⟩
            | succ k1 =>
              have c : (p : Int) < 64 := by have := HP.out; omega
              have c0 : (0 : Int) ≤ p := by omega
              have HP64 := Aside0.mk (show p < 64 by have := HP.out; omega)
              have HFL := Aside0.mk (fill_length 64 X p (by have := BL.out; have := HP64.out; omega) (by have := HP64.out; omega))
              have hcell := R2.out.cell p (by rw [HFL.out]; exact HP64.out)
              have hfz := R2.out.frozen p
              generalize (fillL 64 X p)[p]'(by rw [HFL.out]; exact HP64.out) = z0 at *
              obtain ⟨q, r, hp16⟩ : ∃ q r : Nat, p / 16 = q ∧ p % 16 = r := ⟨_, _, rfl, rfl⟩
              have HQR := Aside0.mk hp16
              have hm : (p : Int) % 16 = (r : Int) := by omega
              by_cases hr : r < 4
              · have HR4 := Aside0.mk hr
                have c2 : (r : Int) < 4 := by omega
                obtain ⟨ad1, e1, hx1⟩ := Kd.at_int R3.out (r : Int) (by omega) c2
                cases e1
                rw [Int.toNat_natCast, Go.WideShapes.add_plain, Nat.zero_add] at hx1
                have HY := Aside0.mk (show X[p]? = some (rd (bs n 4) (r : Int)) by rw [BE.out p HP64.out, HQR.out.2, if_pos HR4.out, rd_lt _ r (by rw [bs4_length]; exact HR4.out)]; exact List.getElem?_eq_getElem _)
                generalize rd (bs n 4) (r : Int) = y at *
                have ST := Aside0.mk (R2.out.setCell p y)
                clear hp16 hr
                go_wp2
                go_roundg k1
                case measure => omega
                case rel =>
                  exact ⟨p + 1, ⟨by have := HP.out; omega⟩, by go_num, ⟨R1.out.turn ST.out.2 (by have := OH.out; omega)⟩, ⟨by rw [← fill_succ 64 X p y HP64.out HY.out]; exact ST.out.1⟩, ⟨C_turn R3.out ST.out.2 (by have := O8.out; simp at this ⊢; omega)⟩, ⟨C_turn R4.out ST.out.2 (by have := O7.out; simp at this ⊢; omega)⟩, ⟨ST.out.2.below R5.out (by have := OH.out; omega)⟩⟩
              · have HR4 := Aside0.mk hr
                have c2 : ¬ (r : Int) < 4 := by omega
                have hdq : (p : Int) / 16 = (q : Int) := by omega
                obtain ⟨s, hs⟩ : ∃ s : Nat, (s : Int) = (q : Int) * 12 + (r : Int) - 4 := ⟨q * 12 + r - 4, by omega⟩
                have hs2 : (q : Int) * 12 + (r : Int) - 4 = (s : Int) := hs.symm
                have hs48 : (s : Int) < 48 := by omega
                have HSE := Aside0.mk (show q * 12 + r - 4 = s ∧ s < 48 from by omega)
                obtain ⟨ad1, e1, hx1⟩ := Kd.at_int R4.out (s : Int) (by omega) hs48
                cases e1
                rw [Int.toNat_natCast, Go.WideShapes.add_plain, Nat.zero_add] at hx1
                have HLA := Aside0.mk (show all.length = 48 from (C_len R4.out))
                have HY := Aside0.mk (show X[p]? = some (rd all (s : Int)) by rw [BE.out p HP64.out, HQR.out.1, HQR.out.2, if_neg HR4.out, HSE.out.1, rd_lt _ s (by rw [HLA.out]; exact HSE.out.2)]; exact List.getElem?_eq_getElem _)
                generalize rd all (s : Int) = y at *
                have ST := Aside0.mk (R2.out.setCell p y)
                have hq0 : (0 : Int) ≤ q := by omega
                have hq4 : (q : Int) < 4 := by omega
                have hr0 : (0 : Int) ≤ r := by omega
                have hr16 : (r : Int) < 16 := by omega
                clear hp16 hr hs
                go_wp2
                go_roundg k1
                case measure => omega
                case rel =>
                  exact ⟨p + 1, ⟨by have := HP.out; omega⟩, by go_num, ⟨R1.out.turn ST.out.2 (by have := OH.out; omega)⟩, ⟨by rw [← fill_succ 64 X p y HP64.out HY.out]; exact ST.out.1⟩, ⟨C_turn R3.out ST.out.2 (by have := O8.out; simp at this ⊢; omega)⟩, ⟨C_turn R4.out ST.out.2 (by have := O7.out; simp at this ⊢; omega)⟩, ⟨ST.out.2.below R5.out (by have := OH.out; omega)⟩⟩
end Go.Proofs.Ytjenbffnpekbjaa.F
namespace Go.Proofs.Ytjenbffnpekbjaa.F
open Go.RowKit Go.Proofs.YtjenbffnpekbjaaW.PrintWords Go.Proofs.YtjenbffnpekbjaaW.PrintLast Go.Proofs.YtjenbffnpekbjaaW.PrintMore
set_option linter.unusedVariables false
/-- A list of nothing, or a row of one's own since W, of which 44 bytes are known. -/
def Mine (W w : World) (A : Option Addr) (L : Nat) : Prop := (A = none ∧ L = 0) ∨ ∃ g, A = some ⟨g, 0, none⟩ ∧ L = 44 ∧ W.heap.size ≤ g ∧ Row44 w g
theorem Mine.below {W w w1 : World} {A : Option Addr} {L : Nat} (h : Mine W w A L) (hb : Below w.heap.size w w1) : Mine W w1 A L := by
  rcases h with h | ⟨g, h1, h2, h3, h4⟩
  · exact .inl h
  · have hlt := h4.lt
    obtain ⟨cur, ys, hg, hl, ht⟩ := h4
    exact .inr ⟨g, h1, h2, h3, cur, ys, (hb.block g hlt).trans hg, hl, ht⟩
theorem Mine.drewN {W w : World} {A : Option Addr} {L : Nat} (h : Mine W w A L) (n : Nat) : Mine W (w.drewN n) A L := h
theorem spoil_mine (W w : World) (A : Option Addr) (L : Nat) (h : Mine W w A L) : Calls Try.prog 42 #[.slice A L L, .int .u8 3] w fun e w' => e = .returned (.tuple #[]) ∧ Below W.heap.size w w' := by
  rcases h with ⟨rfl, rfl⟩ | ⟨g, rfl, rfl, h3, h4⟩
  · refine (spoil_nil w).mono ?_
    rintro e w' ⟨rfl, rfl⟩
    exact ⟨rfl, Below.refl _ _⟩
  · refine (spoil_calls g w h4).mono ?_
    rintro e w' ⟨rfl, ht⟩
    exact ⟨rfl, ht.below (Below.refl _ _) h3⟩
theorem C_nil0 (w : World) : Kd.C (Kd.int .u8) w none 0 [] := Kd.C_nil _ _
theorem get_both (l : List Int) (hl : l.length = 64) (h8 : Bytes l) : ∃ (N E : Int) (L : Nat) (xs : List Int), xs.length = L ∧ L ≤ 44
    ∧ (∀ W : World, Calls Try.prog 40 #[.agg (cellsOf l)] W fun e w' => ∃ A, e = .returned (.tuple #[.int .u32 N, .slice A L L, .int .i64 E]) ∧ Kd.C (Kd.int .u8) w' A L xs ∧ Mine W w' A L ∧ Below W.heap.size W w')
    ∧ (∀ W : World, Calls Try.prog 41 #[.agg (cellsOf l)] W fun e w' => ∃ A c, e = .returned (.tuple #[.int .u32 N, .slice A L c, .int .i64 E]) ∧ L ≤ c ∧ Kd.C (Kd.int .u8) w' A L xs ∧ Below W.heap.size W w') := by
  by_cases h1 : Whole l
  · by_cases h2 : Right l
    · have hx : ((innerL l 4).take 44).length = 44 := by rw [List.length_take, innerL_length l hl 4 (by decide)]; rfl
      refine ⟨tagL l 0, 0, 44, (innerL l 4).take 44, hx, Nat.le_refl _, fun W => (getx_calls l hl h8 W).mono ?_, fun W => (rgetx_calls l hl h8 W).mono ?_⟩
      · rintro e w' ⟨h, hb⟩
        rcases h with ⟨h, _⟩ | ⟨_, h, _⟩ | ⟨_, _, g, cur, h, hg, hc, ht⟩
        · exact absurd h1 h
        · exact absurd h2 h
        · exact ⟨_, h, C_of_cur hc ht hx (by decide), .inr ⟨g, rfl, rfl, hg, cur, _, hc, hx, ht⟩, hb⟩
      · rintro e w' ⟨h, hb⟩
        rcases h with ⟨h, _⟩ | ⟨_, h, _⟩ | ⟨_, _, g, c, h, hc, hC⟩
        · exact absurd h1 h
        · exact absurd h2 h
        · exact ⟨_, c, h, hc, hC, hb⟩
    · refine ⟨0, 6, 0, [], rfl, by decide, fun W => (getx_calls l hl h8 W).mono ?_, fun W => (rgetx_calls l hl h8 W).mono ?_⟩
      · rintro e w' ⟨h, hb⟩
        rcases h with ⟨h, _⟩ | ⟨_, _, h⟩ | ⟨_, h, _⟩
        · exact absurd h1 h
        · exact ⟨none, h, C_nil0 _, .inl ⟨rfl, rfl⟩, hb⟩
        · exact absurd h h2
      · rintro e w' ⟨h, hb⟩
        rcases h with ⟨h, _⟩ | ⟨_, _, h⟩ | ⟨_, h, _⟩
        · exact absurd h1 h
        · exact ⟨none, 0, h, Nat.le_refl _, C_nil0 _, hb⟩
        · exact absurd h h2
  · refine ⟨0, 5, 0, [], rfl, by decide, fun W => (getx_calls l hl h8 W).mono ?_, fun W => (rgetx_calls l hl h8 W).mono ?_⟩
    · rintro e w' ⟨h, hb⟩
      rcases h with ⟨_, h⟩ | ⟨h, _⟩ | ⟨h, _⟩
      · exact ⟨none, h, C_nil0 _, .inl ⟨rfl, rfl⟩, hb⟩
      · exact absurd h h1
      · exact absurd h h1
    · rintro e w' ⟨h, hb⟩
      rcases h with ⟨_, h⟩ | ⟨h, _⟩ | ⟨h, _⟩
      · exact ⟨none, 0, h, Nat.le_refl _, C_nil0 _, hb⟩
      · exact absurd h h1
      · exact absurd h h1
end Go.Proofs.Ytjenbffnpekbjaa.F
namespace Go.Proofs.Ytjenbffnpekbjaa.F
open Go.RowKit Go.Proofs.YtjenbffnpekbjaaW.PrintWords Go.Proofs.YtjenbffnpekbjaaW.PrintLast Go.Proofs.YtjenbffnpekbjaaW.PrintMore
set_option linter.unusedVariables false
theorem u32_of_wf5 {n : Int} (h : (Lit.int .u32 n).wf = true) : U32 n := by have := bounds_u32 h; unfold U32; omega
theorem u8_of_wf5 {n : Int} (h : (Lit.int .u8 n).wf = true) : U8 n := by have := bounds_u8 h; unfold U8; omega
theorem start2 (w : World) (x y : List Int) : St w ((w.alloc (.cells (cellsOf x) 47)).alloc (.cells (cellsOf y) 47)) [(w.heap.size, x), (w.heap.size + 1, y)] := by
  refine ⟨((Below.refl _ w).alloc (Nat.le_refl _) _).alloc (by simp) _, fun p hp => ?_⟩
  simp only [List.mem_cons, List.not_mem_nil, or_false] at hp
  rcases hp with rfl | rfl
  · exact (HasB.new w x _ rfl).alloc _
  · exact HasB.new _ y _ (by simp)
theorem held2 {w W W' : World} {g1 g2 : Nat} {x y : List Int} (h : HasB W g1 x ∧ HasB W g2 y ∧ Below w.heap.size w W) (hb : Below W.heap.size W W') : HasB W' g1 x ∧ HasB W' g2 y ∧ Below w.heap.size w W' :=
  ⟨h.1.below hb, h.2.1.below hb, below_step h.2.2 hb⟩
set_option maxHeartbeats 8000000 in
set_option maxRecDepth 100000 in
theorem tells05_walk (n : Int) (A1 : Option Addr) (c1 : Nat) (b : List Int) (x y : List Int) (bits : Int) (w : World)
    (wn : (Lit.int .u32 n).wf = true) (hr : Kd.C (Kd.int .u8) w A1 b.length b) (hc : b.length ≤ c1) (hl : b.length ≤ 140737488351232) (h8 : ∀ z ∈ b, (Lit.int .u8 z).wf = true)
    (x64 : x.length = 64) (x8 : ∀ z ∈ x, (Lit.int .u8 z).wf = true) (y64 : y.length = 64) (y8 : ∀ z ∈ y, (Lit.int .u8 z).wf = true) (wb : (Lit.int .u8 bits).wf = true) :
    Calls Try.prog 11 #[.int .u32 n, .slice A1 b.length c1, .agg (cellsOf x), .agg (cellsOf y), .int .u8 bits] w fun e w' => e = .returned (.bool true) ∧ Below w.heap.size w w' := by
  have un := u32_of_wf5 wn
  have b8 := bytes_of_wf' h8
  have F1 := Aside0.mk (fun (W : World) (g cap : Nat) (hC : Kd.C (Kd.int .u8) W (some ⟨g, 0, none⟩) b.length b) (hcap : b.length ≤ cap) => put_calls n (some ⟨g, 0, none⟩) cap b.length b W un rfl hl hC hcap)
  have F2 := Aside0.mk (fun (W : World) (hW : Below w.heap.size w W) => rput_calls n A1 c1 b.length b W un rfl hl (Kd.C_below hr hW) b8 hc)
  have X64 := Aside0.mk (putB_length n b)
  generalize (putB n b).1 = X at F1 F2 X64
  generalize (putB n b).2 = E at F1 F2
  have hXX := fun (W : World) => eq47 W X X X64.out X64.out
  obtain ⟨N, E2, L, xs, hxs, hL, G1, G2⟩ := get_both x x64 (bytes_of_wf' x8)
  replace G1 := Aside0.mk G1
  replace G2 := Aside0.mk G2
  have HXS := Aside0.mk hxs
  have HL := Aside0.mk hl
  have HR := Aside0.mk hr
  have HC := Aside0.mk hc
  have X6 := Aside0.mk x64
  have Y6 := Aside0.mk y64
  have S0 := Aside0.mk (start2 w x y)
  have HR0 := Aside0.mk (Kd.C_below hr S0.out.below)
  simp only [decide_true] at hXX
  have HIx := Aside0.mk (show (Try.prog.info? 47).map (·.size) = some (x.map (Value.int .u8)).length by rw [List.length_map, x64]; kernel_rfl)
  have HIy := Aside0.mk (show (Try.prog.info? 47).map (·.size) = some (y.map (Value.int .u8)).length by rw [List.length_map, y64]; kernel_rfl)
  have R43 := fun (W : World) => greatest_calls x x64 (bytes_of_wf' x8) W
  have R44 := fun (W : World) => rgreatest_calls x x64 (bytes_of_wf' x8) W
  have R45 := fun (W : World) => mix_calls x y bits x64 y64 W
  have R46 := fun (W : World) => rmix_calls x y bits x64 y64 (u8_of_wf5 wb) W
  have M64 := mixL_length x y bits x64 y64 4 (Nat.le_refl _)
  generalize greatL x 4 = G at R43 R44
  generalize mixL x y bits 4 = M at R45 R46 M64
  have hMM := fun (W : World) => eq47 W M M M64 M64
  simp only [decide_true] at hMM
  replace R43 := Aside0.mk R43
  replace R44 := Aside0.mk R44
  replace R45 := Aside0.mk R45
  replace R46 := Aside0.mk R46
  have R47 := Aside0.mk lives05
  clear M64
  clear un b8 wn h8 hr hc hl hxs hL x64 y64 x8 y8 wb
  go_enter Try.func11, Try.ntmps11
  go_wp2_with (first
    | (go_at_call 14; ((with_reducible refine (wide_calls _ _ b _ HR0.out HC.out (by have := HL.out; omega)).mono ?_); rintro e w1 ⟨g, cap, rfl, ho, hb⟩; have HO1 := Aside0.mk (Kd.R_reads' ho).2.2; have HQ := Aside0.mk (Kd.R_reads' ho).2.1; have S1 := Aside0.mk (S0.out.call hb); have T1 := Aside0.mk (St.mk (Below.refl w1.heap.size w1) (bl := []) (fun p hp => by cases hp)); have HWc := Aside0.mk (show b.length ≤ cap by have := HQ.out; rw [List.length_append] at this; omega); clear ho hb S0 HR0))
    | (go_at_call 38; ((with_reducible refine (F1.out _ _ _ (take_C HO1.out) HWc.out).mono ?_); rintro e w2 ⟨rfl, hb⟩; have S2 := Aside0.mk (S1.out.call hb); have T2 := Aside0.mk (T1.out.call hb); clear hb S1 T1))
    | ((with_reducible refine gate_store47 (x := .tmp 12) rfl ?_); go_must (refine storeB rfl (.tmp 12) (.tmp 31) rfl w2.heap.size rfl X zeros X64.out rfl rfl (HasB.new w2 zeros _ rfl) ?_; intro w3 hs ht; have S3 := Aside0.mk (S2.out.stored hs ht); have T3 := Aside0.mk (T2.out.stored hs ht); clear hs ht S2 T2))
    | (go_at_call 39; ((with_reducible refine (F2.out _ S3.out.below).mono ?_); rintro e w4 ⟨rfl, hb⟩; have S4 := Aside0.mk (S3.out.call hb); have T4 := Aside0.mk (T3.out.call hb); clear hb S3 T3))
    | ((with_reducible refine gate_store47 (x := .tmp 14) rfl ?_); go_must (refine storeB rfl (.tmp 14) (.tmp 37) rfl w4.heap.size rfl X zeros X64.out rfl rfl (HasB.new w4 zeros _ rfl) ?_; intro w5 hs ht; have S5 := Aside0.mk (S4.out.stored hs ht); have T5 := Aside0.mk (T4.out.stored hs ht); clear hs ht S4 T4))
    | ((with_reducible refine gate_load47 (x := .tmp 7) rfl ?_); go_must (refine loadB rfl (.tmp 7) rfl w.heap.size rfl x X6.out (by first | exact S5.out.has (w.heap.size, x) (by simp) | exact S6.out.has (w.heap.size, x) (by simp) | exact S8.out.has (w.heap.size, x) (by simp)) ?_))
    | (go_at_call 40; ((with_reducible refine (G1.out _).mono ?_); rintro e w6 ⟨A6, rfl, hC, hM, hb⟩; have S6 := Aside0.mk (S5.out.call hb); have T6 := Aside0.mk (T5.out.call hb); have C6 := Aside0.mk hC; have M6 := Aside0.mk hM; have U6 := Aside0.mk hb; have S5' := S5; clear hC hM hb S5 T5))
    | (go_at_call 41; ((with_reducible refine (G2.out _).mono ?_); rintro e w7 ⟨A7, c7, rfl, hc7, hC, hb⟩; have S7 := Aside0.mk (S6.out.call hb); have T7 := Aside0.mk (T6.out.call hb); have C7 := Aside0.mk (Kd.C_below C6.out hb); have D7 := Aside0.mk hC; have HC7 := Aside0.mk hc7; have M7 := Aside0.mk (M6.out.below hb); have U7 := Aside0.mk (below_step U6.out hb); clear hC hc7 hb S6 T6 C6 M6 U6))
    | ((with_reducible refine gate_load47 (x := .tmp 12) rfl ?_); go_must (refine loadB rfl (.tmp 12) rfl w2.heap.size rfl X X64.out (S7.out.has (w2.heap.size, X) (by simp)) ?_))
    | ((with_reducible refine gate_load47 (x := .tmp 14) rfl ?_); go_must (refine loadB rfl (.tmp 14) rfl w4.heap.size rfl X X64.out (S7.out.has (w4.heap.size, X) (by simp)) ?_))
    | (go_at_call 32; ((with_reducible refine (same_refl_calls _ _ _ _ L xs _ HXS.out C7.out (Nat.le_refl _) D7.out HC7.out).mono ?_); rintro e w' ⟨rfl, ⟨nd, rfl⟩⟩))
    | (go_at_call 23; ((with_reducible refine (left_calls g cap b A1 c1 _ (Kd.C_drewN (Kd.C_below HO1.out T7.out.below) nd) HQ.out (Kd.C_drewN (Kd.C_below HR.out S7.out.below) nd) HC.out (by have := HL.out; omega)).mono ?_); rintro e w' ⟨rfl, ⟨ne, rfl⟩⟩))
    | (go_at_call 42; ((with_reducible refine (spoil_mine w5 _ A6 L (M7.out.drewN _)).mono ?_); rintro e w8 ⟨rfl, hb⟩; have S8 := Aside0.mk (S5'.out.call ((pw_below_drewN U7.out (nd + ne)).trans hb)); clear hb S7 T7 U7 M7))
    | (go_at_call 40; ((with_reducible refine (G1.out _).mono ?_); rintro e w9 ⟨A9, rfl, hC, hM, hb⟩; have S9 := Aside0.mk (S8.out.call hb); clear hC hM hb S8)))
  have HS := Aside0.mk (show HasB w9.drew w.heap.size x ∧ HasB w9.drew (w.heap.size + 1) y ∧ Below w.heap.size w w9.drew from ⟨S9.out.has (w.heap.size, x) (by simp), S9.out.has (w.heap.size + 1, y) (by simp), pw_below_drewN S9.out.below 1⟩)
  refine wp_region_held (S := fun w' => HasB w' w.heap.size x ∧ HasB w' (w.heap.size + 1) y ∧ Below w.heap.size w w') (by kernel_rfl) ?_
  refine wpAnyH_take (i := 0) (v := .int .u32 N) rfl (by kernel_rfl) (by kernel_rfl) (by kernel_rfl) (fun c a w h => h) (Or.inl ⟨by rfl, fun W hW => by first | rfl | (go_simp; done)⟩) HS.out ?_
  simp only [List.getElem_toArray, List.getElem_cons_zero, Act.put, List.setIfInBounds_toArray, List.set_cons_zero, List.set_cons_succ]
  refine wpAnyH_take (i := 1) (v := .int .u32 N) rfl (by kernel_rfl) (by kernel_rfl) (by kernel_rfl) (fun c a w h => h) (Or.inl ⟨by rfl, fun W hW => by first | rfl | (go_simp; done)⟩) HS.out ?_
  simp only [List.getElem_toArray, List.getElem_cons_succ, List.getElem_cons_zero, Act.put, List.setIfInBounds_toArray, List.set_cons_zero, List.set_cons_succ]
  refine wpAnyH_take (i := 2) (v := .bool true) rfl (by kernel_rfl) (by kernel_rfl) (by kernel_rfl) (fun c a w h => h) (Or.inl ⟨by rfl, fun W hW => by first | rfl | (go_simp; done)⟩) HS.out ?_
  simp only [List.getElem_toArray, List.getElem_cons_succ, List.getElem_cons_zero, Act.put, List.setIfInBounds_toArray, List.set_cons_zero, List.set_cons_succ]
  refine wpAnyH_take (i := 3) (v := .bool true) rfl (by kernel_rfl) (by kernel_rfl) (by kernel_rfl) (fun c a w h => h) (Or.inl ⟨by rfl, fun W hW => by first | rfl | (go_simp; done)⟩) HS.out ?_
  simp only [List.getElem_toArray, List.getElem_cons_succ, List.getElem_cons_zero, Act.put, List.setIfInBounds_toArray, List.set_cons_zero, List.set_cons_succ]
  refine wpAnyH_take (i := 4) (v := .int .i64 E2) rfl (by kernel_rfl) (by kernel_rfl) (by kernel_rfl) (fun c a w h => h) (Or.inl ⟨by rfl, fun W hW => by first | rfl | (go_simp; done)⟩) HS.out ?_
  simp only [List.getElem_toArray, List.getElem_cons_succ, List.getElem_cons_zero, Act.put, List.setIfInBounds_toArray, List.set_cons_zero, List.set_cons_succ]
  refine wpAnyH_take (i := 5) (v := .int .i64 E2) rfl (by kernel_rfl) (by kernel_rfl) (by kernel_rfl) (fun c a w h => h) (Or.inl ⟨by rfl, fun W hW => by first | rfl | (go_simp; done)⟩) HS.out ?_
  simp only [List.getElem_toArray, List.getElem_cons_succ, List.getElem_cons_zero, Act.put, List.setIfInBounds_toArray, List.set_cons_zero, List.set_cons_succ]
  refine wpAnyH_take (i := 6) (v := .bool true) rfl (by kernel_rfl) (by kernel_rfl) (by kernel_rfl) (fun c a w h => h) (Or.inl ⟨by rfl, fun W hW => by first | rfl | (go_simp; done)⟩) HS.out ?_
  simp only [List.getElem_toArray, List.getElem_cons_succ, List.getElem_cons_zero, Act.put, List.setIfInBounds_toArray, List.set_cons_zero, List.set_cons_succ]
  refine wpAnyH_take (i := 7) (v := .bool true) rfl (by kernel_rfl) (by kernel_rfl) (by kernel_rfl) (fun c a w h => h) (Or.inl ⟨by rfl, fun W hW => by first | rfl | (go_simp; done)⟩) HS.out ?_
  simp only [List.getElem_toArray, List.getElem_cons_succ, List.getElem_cons_zero, Act.put, List.setIfInBounds_toArray, List.set_cons_zero, List.set_cons_succ]
  refine wpAnyH_take (i := 8) (v := .bool true) rfl (by kernel_rfl) (by kernel_rfl) (by kernel_rfl) (fun c a w h => h) (Or.inl ⟨by rfl, fun W hW => by first | rfl | (go_simp; done)⟩) HS.out ?_
  simp only [List.getElem_toArray, List.getElem_cons_succ, List.getElem_cons_zero, Act.put, List.setIfInBounds_toArray, List.set_cons_zero, List.set_cons_succ]
  refine wpAnyH_take (i := 9) (v := .agg (cellsOf x)) rfl (by kernel_rfl) (by kernel_rfl) (by kernel_rfl) (fun c a w h => h) (yieldsIf_load_mid (by rfl) 47 (.tmp 7) rfl w.heap.size 0 rfl _ _ (fun W h => h.1.range) und47' rfl HIx.out) HS.out ?_
  simp only [List.getElem_toArray, List.getElem_cons_succ, List.getElem_cons_zero, Act.put, List.setIfInBounds_toArray, List.set_cons_zero, List.set_cons_succ]
  refine wpAnyH_take (i := 11) (v := .agg (cellsOf x)) rfl (by kernel_rfl) (by kernel_rfl) (by kernel_rfl) (fun c a w h => h) (yieldsIf_load_mid (by rfl) 47 (.tmp 7) rfl w.heap.size 0 rfl _ _ (fun W h => h.1.range) und47' rfl HIx.out) HS.out ?_
  simp only [List.getElem_toArray, List.getElem_cons_succ, List.getElem_cons_zero, Act.put, List.setIfInBounds_toArray, List.set_cons_zero, List.set_cons_succ]
  refine wpAnyH_all (rs := [10]) (by kernel_rfl) (by decide) ?_
  intro j hj
  rw [List.mem_singleton] at hj
  subst hj
  refine wpOp_some rfl ?_
  refine goes_ Try.func43 (by kernel_rfl) rfl #[.agg (cellsOf x)] (by rfl) rfl rfl (by simp only [List.map_toArray, List.map_cons, List.map_nil]; rfl) ?_
  refine (R43.out _).mono ?_
  rintro e w10 ⟨rfl, hb⟩
  have K10 := Aside0.mk (held2 HS.out hb)
  clear hb
  refine ⟨_, rfl, K10.out, ?_⟩
  simp only [List.getElem_toArray, List.getElem_cons_succ, List.getElem_cons_zero, Act.put, List.setIfInBounds_toArray, List.set_cons_zero, List.set_cons_succ]
  refine wpAnyH_all (rs := [12]) (by kernel_rfl) (by decide) ?_
  intro j hj
  rw [List.mem_singleton] at hj
  subst hj
  refine wpOp_some rfl ?_
  refine goes_ Try.func44 (by kernel_rfl) rfl #[.agg (cellsOf x)] (by rfl) rfl rfl (by simp only [List.map_toArray, List.map_cons, List.map_nil]; rfl) ?_
  refine (R44.out _).mono ?_
  rintro e w11 ⟨rfl, hb⟩
  have K11 := Aside0.mk (held2 K10.out hb)
  clear hb
  refine ⟨_, rfl, K11.out, ?_⟩
  simp only [List.getElem_toArray, List.getElem_cons_succ, List.getElem_cons_zero, Act.put, List.setIfInBounds_toArray, List.set_cons_zero, List.set_cons_succ]
  refine wpAnyH_take (i := 13) (v := .bool true) rfl (by kernel_rfl) (by kernel_rfl) (by kernel_rfl) (fun c a w h => h) (Or.inl ⟨by rfl, fun W hW => by first | rfl | (go_simp; done)⟩) K11.out ?_
  simp only [List.getElem_toArray, List.getElem_cons_succ, List.getElem_cons_zero, Act.put, List.setIfInBounds_toArray, List.set_cons_zero, List.set_cons_succ]
  refine wpAnyH_take (i := 14) (v := .bool true) rfl (by kernel_rfl) (by kernel_rfl) (by kernel_rfl) (fun c a w h => h) (Or.inl ⟨by rfl, fun W hW => by first | rfl | (go_simp; done)⟩) K11.out ?_
  simp only [List.getElem_toArray, List.getElem_cons_succ, List.getElem_cons_zero, Act.put, List.setIfInBounds_toArray, List.set_cons_zero, List.set_cons_succ]
  refine wpAnyH_take (i := 15) (v := .bool true) rfl (by kernel_rfl) (by kernel_rfl) (by kernel_rfl) (fun c a w h => h) (Or.inl ⟨by rfl, fun W hW => by first | rfl | (go_simp; done)⟩) K11.out ?_
  simp only [List.getElem_toArray, List.getElem_cons_succ, List.getElem_cons_zero, Act.put, List.setIfInBounds_toArray, List.set_cons_zero, List.set_cons_succ]
  refine wpAnyH_take (i := 16) (v := .agg (cellsOf x)) rfl (by kernel_rfl) (by kernel_rfl) (by kernel_rfl) (fun c a w h => h) (yieldsIf_load_mid (by rfl) 47 (.tmp 7) rfl w.heap.size 0 rfl _ _ (fun W h => h.1.range) und47' rfl HIx.out) K11.out ?_
  simp only [List.getElem_toArray, List.getElem_cons_succ, List.getElem_cons_zero, Act.put, List.setIfInBounds_toArray, List.set_cons_zero, List.set_cons_succ]
  refine wpAnyH_take (i := 17) (v := .agg (cellsOf y)) rfl (by kernel_rfl) (by kernel_rfl) (by kernel_rfl) (fun c a w h => h) (yieldsIf_load_mid (by rfl) 47 (.tmp 8) rfl (w.heap.size + 1) 0 rfl _ _ (fun W h => h.2.1.range) und47' rfl HIy.out) K11.out ?_
  simp only [List.getElem_toArray, List.getElem_cons_succ, List.getElem_cons_zero, Act.put, List.setIfInBounds_toArray, List.set_cons_zero, List.set_cons_succ]
  refine wpAnyH_take (i := 18) (v := .int .u8 bits) rfl (by kernel_rfl) (by kernel_rfl) (by kernel_rfl) (fun c a w h => h) (Or.inl ⟨by rfl, fun W hW => by first | rfl | (go_simp; done)⟩) K11.out ?_
  simp only [List.getElem_toArray, List.getElem_cons_succ, List.getElem_cons_zero, Act.put, List.setIfInBounds_toArray, List.set_cons_zero, List.set_cons_succ]
  refine wpAnyH_take (i := 20) (v := .agg (cellsOf x)) rfl (by kernel_rfl) (by kernel_rfl) (by kernel_rfl) (fun c a w h => h) (yieldsIf_load_mid (by rfl) 47 (.tmp 7) rfl w.heap.size 0 rfl _ _ (fun W h => h.1.range) und47' rfl HIx.out) K11.out ?_
  simp only [List.getElem_toArray, List.getElem_cons_succ, List.getElem_cons_zero, Act.put, List.setIfInBounds_toArray, List.set_cons_zero, List.set_cons_succ]
  refine wpAnyH_take (i := 21) (v := .agg (cellsOf y)) rfl (by kernel_rfl) (by kernel_rfl) (by kernel_rfl) (fun c a w h => h) (yieldsIf_load_mid (by rfl) 47 (.tmp 8) rfl (w.heap.size + 1) 0 rfl _ _ (fun W h => h.2.1.range) und47' rfl HIy.out) K11.out ?_
  simp only [List.getElem_toArray, List.getElem_cons_succ, List.getElem_cons_zero, Act.put, List.setIfInBounds_toArray, List.set_cons_zero, List.set_cons_succ]
  refine wpAnyH_take (i := 22) (v := .int .u8 bits) rfl (by kernel_rfl) (by kernel_rfl) (by kernel_rfl) (fun c a w h => h) (Or.inl ⟨by rfl, fun W hW => by first | rfl | (go_simp; done)⟩) K11.out ?_
  simp only [List.getElem_toArray, List.getElem_cons_succ, List.getElem_cons_zero, Act.put, List.setIfInBounds_toArray, List.set_cons_zero, List.set_cons_succ]
  refine wpAnyH_all (rs := [19]) (by kernel_rfl) (by decide) ?_
  intro j hj
  rw [List.mem_singleton] at hj
  subst hj
  refine wpOp_some rfl ?_
  refine goes_ Try.func45 (by kernel_rfl) rfl #[.agg (cellsOf x), .agg (cellsOf y), .int .u8 bits] (by rfl) rfl rfl (by simp only [List.map_toArray, List.map_cons, List.map_nil]; rfl) ?_
  refine (R45.out _).mono ?_
  rintro e w12 ⟨rfl, hb⟩
  have K12 := Aside0.mk (held2 K11.out hb)
  clear hb
  refine ⟨_, rfl, K12.out, ?_⟩
  simp only [List.getElem_toArray, List.getElem_cons_succ, List.getElem_cons_zero, Act.put, List.setIfInBounds_toArray, List.set_cons_zero, List.set_cons_succ]
  refine wpAnyH_all (rs := [23]) (by kernel_rfl) (by decide) ?_
  intro j hj
  rw [List.mem_singleton] at hj
  subst hj
  refine wpOp_some rfl ?_
  refine goes_ Try.func46 (by kernel_rfl) rfl #[.agg (cellsOf x), .agg (cellsOf y), .int .u8 bits] (by rfl) rfl rfl (by simp only [List.map_toArray, List.map_cons, List.map_nil]; rfl) ?_
  refine (R46.out _).mono ?_
  rintro e w13 ⟨rfl, hb⟩
  have K13 := Aside0.mk (held2 K12.out hb)
  clear hb
  refine ⟨_, rfl, K13.out, ?_⟩
  simp only [List.getElem_toArray, List.getElem_cons_succ, List.getElem_cons_zero, Act.put, List.setIfInBounds_toArray, List.set_cons_zero, List.set_cons_succ]
  refine wpAnyH_take (i := 24) (v := .bool true) rfl (by kernel_rfl) (by kernel_rfl) (by kernel_rfl) (fun c a w h => h) (Or.inl ⟨by rfl, fun W hW => by first | rfl | (go_simp; done)⟩) K13.out ?_
  simp only [List.getElem_toArray, List.getElem_cons_succ, List.getElem_cons_zero, Act.put, List.setIfInBounds_toArray, List.set_cons_zero, List.set_cons_succ]
  refine wpAnyH_take (i := 25) (v := .bool true) rfl (by kernel_rfl) (by kernel_rfl) (by kernel_rfl) (fun c a w h => h) (Or.inl ⟨by rfl, fun W hW => by first | rfl | (go_simp; done)⟩) K13.out ?_
  simp only [List.getElem_toArray, List.getElem_cons_succ, List.getElem_cons_zero, Act.put, List.setIfInBounds_toArray, List.set_cons_zero, List.set_cons_succ]
  refine wpAnyH_take (i := 26) (v := .bool true) rfl (by kernel_rfl) (by kernel_rfl) (by kernel_rfl) (fun c a w h => h) (Or.inl ⟨by rfl, fun W hW => by first | rfl | (go_simp; done)⟩) K13.out ?_
  simp only [List.getElem_toArray, List.getElem_cons_succ, List.getElem_cons_zero, Act.put, List.setIfInBounds_toArray, List.set_cons_zero, List.set_cons_succ]
  refine wpAnyH_all (rs := [27]) (by kernel_rfl) (by decide) ?_
  intro j hj
  rw [List.mem_singleton] at hj
  subst hj
  refine wpOp_some rfl ?_
  refine goes_ Try.func47 (by kernel_rfl) rfl #[] (by rfl) rfl rfl (by simp only [List.map_toArray, List.map_nil]) ?_
  refine (R47.out _).mono ?_
  rintro e w14 ⟨rfl, hb⟩
  have K14 := Aside0.mk (held2 K13.out hb)
  clear hb
  refine ⟨_, rfl, K14.out, ?_⟩
  simp only [List.getElem_toArray, List.getElem_cons_succ, List.getElem_cons_zero, Act.put, List.setIfInBounds_toArray, List.set_cons_zero, List.set_cons_succ]
  refine wpAnyH_take (i := 28) (v := .bool true) rfl (by kernel_rfl) (by kernel_rfl) (by kernel_rfl) (fun c a w h => h) (Or.inl ⟨by rfl, fun W hW => by first | rfl | (go_simp; done)⟩) K14.out ?_
  simp only [List.getElem_toArray, List.getElem_cons_succ, List.getElem_cons_zero, Act.put, List.setIfInBounds_toArray, List.set_cons_zero, List.set_cons_succ]
  refine wpAnyH_all (rs := [29]) (by kernel_rfl) (by decide) ?_
  intro j hj
  rw [List.mem_singleton] at hj
  subst hj
  refine wpOp_some rfl ?_
  refine value_ (v := .bool true) (w1 := w14) (by rfl) rfl ?run2 ?_
  case run2 => rfl
  refine ⟨K14.out, ?_⟩
  refine wpAnyH_done (by kernel_rfl) ?_ _
  simp only [List.getElem_toArray, List.getElem_cons_succ, List.getElem_cons_zero, Act.put, List.setIfInBounds_toArray, List.set_cons_zero, List.set_cons_succ]
  go_wp2
  go_ret
  exact ⟨rfl, K14.out.2.2⟩
end Go.Proofs.Ytjenbffnpekbjaa.F
namespace Go.Proofs.Ytjenbffnpekbjaa.F
open Go.ChangeShapes Go.WideShapes Go.ChangeAt Go.RowKit Go.Proofs.YtjenbffnpekbjaaW.PrintWords
set_option linter.unusedVariables false
def numOf : Value → Int
  | .int _ a => a
  | _ => 0
theorem cells47 : Try.prog.cellsOf 47 = 64 := by kernel_rfl
theorem open_block {H : Type} {enc : TypeId × Value → H} {W : World} {base b0 : Nat} {sp : Nat → Bool} {held : Bool} {r : Reach} {v : Value} {d : DataW H} {ps : List MemPlace}
    (hv : Value.okWide Try.prog W r b0 47 v) (hd : DataW.Trod enc Try.prog W base sp held 47 v d ps) : ∃ l : List Int, v = .agg (cellsOf l) ∧ l.length = 64 ∧ ∀ z ∈ l, (Lit.int .u8 z).wf = true := by
  simp only [Value.okWide, und47'] at hv
  obtain ⟨cs, rfl, h2, _⟩ := hv
  rw [cells47] at h2
  obtain ⟨fuel, hf⟩ := hd
  obtain ⟨xs, m, rfl, _, hlen, hx, hi⟩ := DataW.trod_array und47' hf
  have hc : (Value.agg cs).cells.toList = cs.toList := rfl
  have key : ∀ i, (hi64 : i < 64) → ∃ a, cs[i]? = some (.int .u8 a) ∧ (Lit.int .u8 a).wf = true := by
    intro i hi64
    have h := hi i hi64
    rw [cells5, List.getElem?_eq_getElem (by omega)] at h
    obtain ⟨a, ea, _, wa⟩ := DataW.trod_int Try.underlying5 h
    refine ⟨a, ?_, wa⟩
    have e := congrArg (fun l => l[0]?) ea
    simp only [List.getElem?_take, List.getElem?_drop, Nat.mul_one, Nat.add_zero] at e
    simpa [Value.cells] using e
  refine ⟨cs.toList.map numOf, ?_, by simp [h2], ?_⟩
  · congr 1
    apply Array.ext_getElem?
    intro i
    by_cases h : i < 64
    · obtain ⟨a, ha, _⟩ := key i h
      rw [ha]
      simp [cellsOf, ha, numOf]
    · rw [Array.getElem?_eq_none (by omega), Array.getElem?_eq_none (by simp [cellsOf]; omega)]
  · intro z hz
    obtain ⟨u, hu, rfl⟩ := List.mem_map.1 hz
    obtain ⟨i, hil, rfl⟩ := List.getElem_of_mem hu
    obtain ⟨a, ha, wa⟩ := key i (by simp at hil; omega)
    have : cs.toList[i] = .int .u8 a := by
      have := ha
      rw [← Array.getElem?_toList, List.getElem?_eq_getElem hil] at this
      exact Option.some.inj this
    rw [this]
    exact wa
end Go.Proofs.Ytjenbffnpekbjaa.F
