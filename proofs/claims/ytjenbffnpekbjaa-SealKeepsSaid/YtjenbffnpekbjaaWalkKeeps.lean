/- SealKeeps: the walk. -/
import Derived.Test.YtjenbffnpekbjaaPureKeeps
import Derived.Deep.LoopGhost
namespace Go.Proofs.Ytjenbffnpekbjaa.F
open Go.RowKit Go.Proofs.YtjenbffnpekbjaaW.PrintWords Go.Proofs.YtjenbffnpekbjaaW.PrintLast Go.Proofs.YtjenbffnpekbjaaW.PrintMore
set_option linter.unusedVariables false
theorem u8_and63 (n : Int) : Go.bits .and .u8 n 63 = n % 64 := by
  have h3 : (BitVec.ofInt 8 63).toNat = 2 ^ 6 - 1 := by decide
  have key : (BitVec.ofInt 8 n &&& BitVec.ofInt 8 63).toNat = (n % ((2 ^ 8 : Nat) : Int)).toNat % 2 ^ 6 := by
    rw [BitVec.toNat_and, BitVec.toNat_ofInt, h3, Nat.and_two_pow_sub_one_eq_mod]
  show IntKind.u8.wrap ((BitVec.ofInt 8 n &&& BitVec.ofInt 8 63).toNat : Nat) = n % 64
  rw [key, IntKind.wrap_u8]
  omega
theorem HasB.cell {w : World} {g : Nat} {l : List Int} (h : HasB w g l) (i : Nat) (hi : i < l.length) : w.cell? ⟨g, i, none⟩ = some (.int .u8 l[i]) :=
  (cell_of_row w g i _ 47 (0, 0) h).trans (cellsOf_at l i hi)
theorem HasB.frozen {w : World} {g : Nat} {l : List Int} (h : HasB w g l) (i : Nat) : w.frozen? ⟨g, i, none⟩ = false := by
  have h2 : w.heap[g]? = some (.cells (cellsOf l) 47 (0, 0)) := h
  simp [World.frozen?, h2]
theorem HasB.setCell {w : World} {g : Nat} {l : List Int} (h : HasB w g l) (i : Nat) (c : Int) : HasB (w.setCell ⟨g, i, none⟩ (.int .u8 c)) g (l.set i c) ∧ Turn g w (w.setCell ⟨g, i, none⟩ (.int .u8 c)) := by
  have h2 : w.heap[g]? = some (.cells (cellsOf l) 47 (0, 0)) := h
  have hlt := h.lt
  refine ⟨?_, rfl, rfl, rfl, by simp [World.setCell], fun k hk => ?_⟩
  · unfold HasB World.setCell
    simp only [Array.getElem?_modify, if_pos, h2, Option.map_some]
    simp [cellsOf, List.map_set]
  · simp only [World.setCell, Array.getElem?_modify]
    rw [if_neg (fun e : g = k => hk e.symm)]
theorem C_of_cur {w : World} {g : Nat} {cur : Array Value} {n : Nat} {xs : List Int} (hg : w.heap[g]? = some (.cells cur 5 (0, 0))) (ht : cur.toList.take n = xs.map (Value.int .u8)) (hn : xs.length = n) (hl : n ≤ 9223372036854775807) : Kd.C (Kd.int .u8) w (some ⟨g, 0, none⟩) n xs := by
  refine Kd.C_of_reads (d := 0) ⟨hn, hl, fun _ => ⟨_, rfl, fun j hj => ?_⟩⟩
  rw [Go.WideShapes.add_plain]
  refine (cell_of_row w g (0 + j) _ 5 (0, 0) hg).trans ?_
  have e := congrArg (fun l => l[j]?) ht
  simp only [List.getElem?_take, if_pos hj, List.getElem?_map] at e
  rw [Nat.zero_add, ← Array.getElem?_toList, e]
  simp [List.getD_eq_getElem?_getD, show j < xs.length by omega]
theorem pad_get (x : List Int) (i : Nat) (hi : i < 44) (hx : x.length ≤ 44) : rd (padL x) (i : Int) = if i < x.length then rd x (i : Int) else 0 := by
  have hl := padL_length x hx
  rw [rd_lt (padL x) i (by omega)]
  by_cases h : i < x.length
  · rw [if_pos h, rd_lt x i h]
    simp [padL, h]
  · rw [if_neg h]
    simp [padL, List.getElem_append, h]
/-- What Get tells of a good block. -/
theorem getgood_calls (l : List Int) (hl : l.length = 64) (h8 : Bytes l) (hw : Whole l) (hr : Right l) (xs : List Int) (hx : (innerL l 4).take 44 = xs) (hxl : xs.length = 44) (w : World) :
    Calls Try.prog 40 #[.agg (cellsOf l)] w fun e w' => ∃ g, e = .returned (.tuple #[.int .u32 (tagL l 0), .slice (some ⟨g, 0, none⟩) 44 44, .int .i64 0]) ∧ Kd.C (Kd.int .u8) w' (some ⟨g, 0, none⟩) 44 xs ∧ Below w.heap.size w w' := by
  refine (getx_calls l hl h8 w).mono ?_
  rintro e w' ⟨h, hb⟩
  rcases h with ⟨h1, _⟩ | ⟨_, h1, _⟩ | ⟨_, _, g, cur, h, _, hg, ht⟩
  · exact absurd hw h1
  · exact absurd hr h1
  · rw [hx] at ht
    exact ⟨g, h, C_of_cur hg ht hxl (by decide), hb⟩
theorem bytes_of_wf' {l : List Int} (h : ∀ x ∈ l, (Lit.int .u8 x).wf = true) : Bytes l := fun c hc => by have := bounds_u8 (h c hc); omega
theorem eqz (w : World) : (Op.equalIn 10000 47 (.agg (cellsOf zeros)) (.agg #[.int .u8 0, .int .u8 0, .int .u8 0, .int .u8 0, .int .u8 0, .int .u8 0, .int .u8 0, .int .u8 0, .int .u8 0, .int .u8 0, .int .u8 0, .int .u8 0, .int .u8 0, .int .u8 0, .int .u8 0, .int .u8 0, .int .u8 0, .int .u8 0, .int .u8 0, .int .u8 0, .int .u8 0, .int .u8 0, .int .u8 0, .int .u8 0, .int .u8 0, .int .u8 0, .int .u8 0, .int .u8 0, .int .u8 0, .int .u8 0, .int .u8 0, .int .u8 0, .int .u8 0, .int .u8 0, .int .u8 0, .int .u8 0, .int .u8 0, .int .u8 0, .int .u8 0, .int .u8 0, .int .u8 0, .int .u8 0, .int .u8 0, .int .u8 0, .int .u8 0, .int .u8 0, .int .u8 0, .int .u8 0, .int .u8 0, .int .u8 0, .int .u8 0, .int .u8 0, .int .u8 0, .int .u8 0, .int .u8 0, .int .u8 0, .int .u8 0, .int .u8 0, .int .u8 0, .int .u8 0, .int .u8 0, .int .u8 0, .int .u8 0, .int .u8 0])).run Try.prog w = .ok true w := by
  have h := eq47 w zeros zeros zeros_length zeros_length
  rw [decide_eq_true rfl] at h
  exact h
theorem great_all (l : List Int) (n : Int) (h0 : 0 ≤ n) (h : ∀ q, q < 4 → tagL l q = n) : greatL l 4 = n := by
  simp only [greatL]
  rw [h 0 (by decide), h 1 (by decide), h 2 (by decide), h 3 (by decide)]
  omega
set_option maxHeartbeats 8000000 in
set_option maxRecDepth 100000 in
theorem keeps_walk (n : Int) (A1 : Option Addr) (c1 : Nat) (x : List Int) (at_ by_ : Int) (w : World) (wn : (Lit.int .u32 n).wf = true)
    (hr : Kd.C (Kd.int .u8) w A1 x.length x) (hc : x.length ≤ c1) (hl : x.length ≤ 140737488351232) (h8 : ∀ c ∈ x, (Lit.int .u8 c).wf = true) (wa : (Lit.int .u8 at_).wf = true) (wb : (Lit.int .u8 by_).wf = true) :
    Calls Try.prog 12 #[.int .u32 n, .slice A1 x.length c1, .int .u8 at_, .int .u8 by_] w fun e w' => e = .returned (.bool true) ∧ Below w.heap.size w w' := by
  have un : U32 n := by have := bounds_u32 wn; unfold U32; omega
  have ub : U8 by_ := by have := bounds_u8 wb; unfold U8; omega
  have F1 := fun (W : World) (hW : Below w.heap.size w W) => put_calls n A1 c1 x.length x W un rfl hl (Kd.C_below hr hW) hc
  have X8 := putB_bytes n x (bytes_of_wf' h8)
  have X64 := putB_length n x
  have S0 := Aside0.mk (St.mk (Below.refl w.heap.size w) (bl := []) (fun p hp => by cases hp))
  by_cases h44 : 44 < x.length
  · have e : putB n x = (zeros, 3) := by unfold putB; rw [if_pos h44]
    rw [e] at F1
    replace F1 := Aside0.mk F1
    have Z := eqz
    have hbig : ¬ ((x.length : Int) ≤ 44) := by omega
    clear e X8 X64 hr hc hl h8 wn wa wb ub un h44
    go_enter Try.func12, Try.ntmps12
    go_wp2_with (first
      | ((with_reducible refine gate_gd rfl ?_); refine skip_guard (by rfl) ?_)
      | (go_at_call 38; ((with_reducible refine (F1.out _ S0.out.below).mono ?_); rintro e w1 ⟨rfl, hb⟩; have S1 := Aside0.mk (S0.out.call hb); clear hb S0))
      | ((with_reducible refine gate_store47 (x := .tmp 9) rfl ?_); go_must (refine storeB rfl (.tmp 9) (.tmp 23) rfl w1.heap.size rfl zeros zeros rfl rfl rfl (HasB.new w1 zeros _ rfl) ?_; intro w2 hs ht; have S2 := Aside0.mk (S1.out.stored hs ht); clear hs ht S1))
      | ((with_reducible refine gate_load47 (x := .tmp 9) rfl ?_); go_must (refine loadB rfl (.tmp 9) rfl w1.heap.size rfl zeros zeros_length (S2.out.has (w1.heap.size, zeros) (by simp)) ?_))
      | (go_at_call 47; ((with_reducible refine (lives05 _).mono ?_); rintro e w3 ⟨rfl, hb⟩; have S3 := Aside0.mk (S2.out.call hb); clear hb S2)))
    all_goals (go_ret; exact ⟨rfl, S3.out.below⟩)
  · by_cases h1 : n < 1
    · have e : putB n x = (zeros, 2) := by unfold putB; rw [if_neg h44, if_pos h1]
      rw [e] at F1
      replace F1 := Aside0.mk F1
      have Z := eqz
      have hng : ¬ 0 < n := by omega
      clear e X8 X64 hr hc hl h8 wn wa wb ub un h44 h1
      go_enter Try.func12, Try.ntmps12
      go_wp2_with (first
        | ((with_reducible refine gate_gd rfl ?_); refine skip_guard (by rfl) ?_)
        | (go_at_call 38; ((with_reducible refine (F1.out _ S0.out.below).mono ?_); rintro e w1 ⟨rfl, hb⟩; have S1 := Aside0.mk (S0.out.call hb); clear hb S0))
        | ((with_reducible refine gate_store47 (x := .tmp 9) rfl ?_); go_must (refine storeB rfl (.tmp 9) (.tmp 23) rfl w1.heap.size rfl zeros zeros rfl rfl rfl (HasB.new w1 zeros _ rfl) ?_; intro w2 hs ht; have S2 := Aside0.mk (S1.out.stored hs ht); clear hs ht S1))
        | ((with_reducible refine gate_load47 (x := .tmp 9) rfl ?_); go_must (refine loadB rfl (.tmp 9) rfl w1.heap.size rfl zeros zeros_length (S2.out.has (w1.heap.size, zeros) (by simp)) ?_))
        | (go_at_call 47; ((with_reducible refine (lives05 _).mono ?_); rintro e w3 ⟨rfl, hb⟩; have S3 := Aside0.mk (S2.out.call hb); clear hb S2)))
      all_goals (go_ret; exact ⟨rfl, S3.out.below⟩)
    · obtain ⟨g1, g2, g3, g4, g5⟩ := putB_good n x un (by omega) (by omega)
      rw [g1] at F1
      have PG := Aside0.mk (fun i hi => pad_get x i hi (by omega))
      have PL := Aside0.mk (padL_length x (by omega))
      have GX := Aside0.mk (show getE (putB n x).1 = 0 by unfold getE; rw [if_pos g3, if_pos g4])
      have KP := Aside0.mk (keeps_pure (putB n x).1 X64 X8 g3 g4)
      generalize (putB n x).1 = X at *
      have G1 := Aside0.mk (show ∀ W, Calls Try.prog 40 #[.agg (cellsOf X)] W fun e w' => ∃ g, e = .returned (.tuple #[.int .u32 n, .slice (some ⟨g, 0, none⟩) 44 44, .int .i64 0]) ∧ Kd.C (Kd.int .u8) w' (some ⟨g, 0, none⟩) 44 (padL x) ∧ Below W.heap.size W w' by
        have h := getgood_calls X X64 X8 g3 g4 (padL x) g5 PL.out
        rw [g2 0 (by decide)] at h
        exact h)
      have G2 := Aside0.mk (show ∀ W, Calls Try.prog 43 #[.agg (cellsOf X)] W fun e w' => e = .returned (.int .u32 n) ∧ Below W.heap.size W w' by
        have h := greatest_calls X X64 X8
        rw [great_all X n (by omega) g2] at h
        exact h)
      replace X64 := Aside0.mk X64
      replace X8 := Aside0.mk X8
      replace F1 := Aside0.mk F1
      have HR := Aside0.mk hr
      have HC := Aside0.mk hc
      have UB := Aside0.mk ub
      have hle : (x.length : Int) ≤ 44 := by omega
      have hpos : 0 < n := by omega
      have H44 := Aside0.mk (show x.length ≤ 44 by omega)
      clear g1 g2 g3 g4 g5 hr hc hl h8 wn wa wb ub un h44 h1
      go_enter Try.func12, Try.ntmps12
      go_wp2_with (first
        | (go_at_call 38; ((with_reducible refine (F1.out _ S0.out.below).mono ?_); rintro e w1 ⟨rfl, hb⟩; have S1 := Aside0.mk (S0.out.call hb); clear hb S0))
        | ((with_reducible refine gate_store47 (x := .tmp 9) rfl ?_); go_must (refine storeB rfl (.tmp 9) (.tmp 23) rfl w1.heap.size rfl X zeros X64.out rfl rfl (HasB.new w1 zeros _ rfl) ?_; intro w2 hs ht; have S2 := Aside0.mk (S1.out.stored hs ht); have L1 := Aside0.mk S1.out.below.size; clear hs ht S1))
        | ((with_reducible refine gate_load47 (x := .tmp 9) rfl ?_); (try (refine gate_guard (by rfl) ?_; dsimp only)); go_must (refine loadB rfl (.tmp 9) rfl w1.heap.size rfl X X64.out (by first | exact S2.out.has (w1.heap.size, X) (by simp) | exact S3.out.has (w1.heap.size, X) (by simp)) ?_))
        | (go_at_call 40; ((with_reducible refine (G1.out _).mono ?_); rintro e w3 ⟨g, rfl, hC, hb⟩; have S3 := Aside0.mk (S2.out.call hb); have C3 := Aside0.mk hC; clear hb hC S2))
        | (go_at_call 43; ((with_reducible refine (G2.out _).mono ?_); rintro e w4 ⟨rfl, hb⟩; have S4 := Aside0.mk (S3.out.call hb); have C4 := Aside0.mk (Kd.C_below C3.out hb); clear hb S3 C3)))
      -- the byte that is changed
      obtain ⟨idx, hidx⟩ : ∃ i : Nat, (i : Int) = at_ % 64 := ⟨(at_ % 64).toNat, by omega⟩
      have hi64 : idx < 64 := by omega
      have HI := Aside0.mk hi64
      have hix : Go.bits .and .u8 at_ 63 = (idx : Int) := by rw [u8_and63, hidx]
      have hlt : (idx : Int) < 64 := by omega
      clear hidx hi64
      obtain ⟨y, hy⟩ : ∃ y, X[idx]'(by rw [X64.out]; exact HI.out) = y := ⟨_, rfl⟩
      have hy8 : U8 y := by rw [← hy]; exact X8.out _ (List.getElem_mem _)
      have hyx : X[idx]? = some y := by rw [List.getElem?_eq_getElem (by rw [X64.out]; exact HI.out), hy]
      obtain ⟨k8, kz⟩ := xor8 hy8 UB.out
      have K8 := Aside0.mk k8
      have KEY := Aside0.mk (show getE (X.set idx (Go.bits .xor .u8 y by_)) = 0 ↔ by_ = 0 from ⟨fun h => kz.1 (by have := KP.out idx HI.out _ k8 h; rw [hyx] at this; exact (Option.some.inj this).symm), fun h => by
        rw [kz.2 h]
        have : X.set idx y = X := by
          apply List.ext_getElem?
          intro k
          rw [List.getElem?_set]
          by_cases hk : idx = k
          · subst hk; rw [if_pos rfl, if_pos (by rw [X64.out]; exact HI.out), hyx]
          · rw [if_neg hk]
        rw [this]
        exact GX.out⟩)
      have hB := S4.out.has (w1.heap.size, X) (by simp)
      have hcell := hB.cell idx (by rw [X64.out]; exact HI.out)
      rw [hy] at hcell
      have hfz := hB.frozen idx
      have HB := Aside0.mk hB
      have HCELL := Aside0.mk hcell
      have HFZ := Aside0.mk hfz
      have HX4 := Aside0.mk (Kd.C_below HR.out S4.out.below)
      clear hB hcell hfz hyx hy8 hy k8 kz
      go_loopg [14] 44 (fun kq v14 w' => ∃ i : Nat, Aside0 (i + kq = 44) ∧ v14 = .int .i64 i ∧ w' = w4)
      case atStart => exact ⟨0, ⟨rfl⟩, rfl, rfl⟩
      case round =>
        obtain ⟨i, HQ, rfl, rfl⟩ := hrel
        cases gk with
        | zero =>
          have e := HQ.out
          obtain rfl : i = 44 := by omega
          have hcell := HCELL.out
          have hfz := HFZ.out
          have hset := HB.out.setCell idx (Go.bits .xor .u8 y by_)
          have S5 := Aside0.mk hset.1
          have B5 := Aside0.mk (hset.2.below S4.out.below L1.out)
          clear hset
          have X5 := Aside0.mk (show (X.set idx (Go.bits .xor .u8 y by_)).length = 64 by rw [List.length_set]; exact X64.out)
          have X58 := Aside0.mk (show Bytes (X.set idx (Go.bits .xor .u8 y by_)) from fun c hc => by
            rcases List.mem_or_eq_of_mem_set hc with hc | rfl
            · exact X8.out c hc
            · exact K8.out)
          go_wp2_with (first
            | ((with_reducible refine gate_load47 (x := .tmp 9) rfl ?_); go_must (refine loadB rfl (.tmp 9) rfl w1.heap.size rfl _ X5.out S5.out ?_))
            | (go_at_call 40; ((with_reducible refine (gete_calls _ X5.out X58.out _).mono ?_); rintro e w5 ⟨r, v, rfl, hb⟩; have B6 := Aside0.mk (below_step B5.out hb); clear hb))
            | (go_at_call 47; ((with_reducible refine (lives05 _).mono ?_); rintro e w6 ⟨rfl, hb⟩; have B7 := Aside0.mk (below_step B6.out hb); clear hb)))
          all_goals first
            | (go_ret; exact ⟨rfl, B7.out⟩)
            | (exfalso; rename_i hh; exact hh (by rw [Bool.eq_iff_iff, beq_iff_eq, beq_iff_eq]; exact KEY.out))
            | trace_state
        | succ k1 =>
          have c : (i : Int) < 44 := by have := HQ.out; omega
          have hi44 := Aside0.mk (show i < 44 by have := HQ.out; omega)
          obtain ⟨ad2, e2, hx2⟩ := Kd.at_int C4.out (i : Int) (by omega) c
          cases e2
          rw [Int.toNat_natCast, Go.WideShapes.add_plain, Nat.zero_add] at hx2
          by_cases hlx : (i : Int) < x.length
          · obtain ⟨ad1, e1, hx1⟩ := Kd.at_int HX4.out (i : Int) (by omega) hlx
            cases e1
            rw [Int.toNat_natCast] at hx1
            have hp := PG.out i hi44.out
            rw [if_pos (by omega)] at hp
            rw [hp] at hx2
            clear hp
            go_wp2
            go_roundg k1
            case measure => omega
            case rel => exact ⟨i + 1, ⟨by have := HQ.out; omega⟩, by go_num, rfl⟩
          · have hp := PG.out i hi44.out
            rw [if_neg (by omega)] at hp
            rw [hp] at hx2
            clear hp
            go_wp2
            go_roundg k1
            case measure => omega
            case rel => exact ⟨i + 1, ⟨by have := HQ.out; omega⟩, by go_num, rfl⟩
end Go.Proofs.Ytjenbffnpekbjaa.F
