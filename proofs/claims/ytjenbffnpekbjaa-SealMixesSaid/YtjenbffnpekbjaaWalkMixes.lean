/- SealMixes: the walk. -/
import Derived.Test.YtjenbffnpekbjaaSeal8
import Derived.Deep.Cut
import Derived.Deep.CutRange
namespace Go.Proofs.Ytjenbffnpekbjaa.F
open Go.RowKit Go.Proofs.YtjenbffnpekbjaaW.PrintWords Go.Proofs.YtjenbffnpekbjaaW.PrintLast Go.Proofs.YtjenbffnpekbjaaW.PrintMore
set_option linter.unusedVariables false
attribute [local go_sem] max2_int min2_int max_two min_two
theorem u32_of_wf {n : Int} (h : (Lit.int .u32 n).wf = true) : U32 n := by have := bounds_u32 h; unfold U32; omega
theorem bytes_of_wf {l : List Int} (h : ∀ x ∈ l, (Lit.int .u8 x).wf = true) : Bytes l := fun c hc => by have := bounds_u8 (h c hc); omega
theorem St.again {w W W' : World} {bl : List (Nat × List Int)} (h : St w W bl) (g : Nat) (l : List Int) (hg : w.heap.size ≤ g) (hk : ∀ p ∈ bl, p.1 = g → p.2 = l) (hs : HasB W' g l) (ht : Turn g W W') : St w W' bl := by
  refine ⟨ht.below h.below hg, fun p hp => ?_⟩
  by_cases e : p.1 = g
  · rw [e, hk p hp e]; exact hs
  · exact (h.has p hp).turn ht e
set_option maxHeartbeats 8000000 in
set_option maxRecDepth 100000 in
theorem mixes_walk (n m k : Int) (A3 : Option Addr) (c3 : Nat) (a : List Int) (A4 : Option Addr) (c4 : Nat) (b : List Int) (A5 : Option Addr) (c5 : Nat) (c : List Int) (bits more : Int) (w : World)
    (wn : (Lit.int .u32 n).wf = true) (wm : (Lit.int .u32 m).wf = true) (wk : (Lit.int .u32 k).wf = true)
    (hr3 : Kd.C (Kd.int .u8) w A3 a.length a) (hc3 : a.length ≤ c3) (hl3 : a.length ≤ 140737488351232) (h83 : ∀ x ∈ a, (Lit.int .u8 x).wf = true)
    (hr4 : Kd.C (Kd.int .u8) w A4 b.length b) (hc4 : b.length ≤ c4) (hl4 : b.length ≤ 140737488351232) (h84 : ∀ x ∈ b, (Lit.int .u8 x).wf = true)
    (hr5 : Kd.C (Kd.int .u8) w A5 c.length c) (hc5 : c.length ≤ c5) (hl5 : c.length ≤ 140737488351232) (h85 : ∀ x ∈ c, (Lit.int .u8 x).wf = true)
    (wb : (Lit.int .u8 bits).wf = true) (wo : (Lit.int .u8 more).wf = true) :
    Calls Try.prog 13 #[.int .u32 n, .int .u32 m, .int .u32 k, .slice A3 a.length c3, .slice A4 b.length c4, .slice A5 c.length c5, .int .u8 bits, .int .u8 more] w fun e w' => e = .returned (.bool true) ∧ Below w.heap.size w w' := by
  have F1 := fun (W : World) (hW : Below w.heap.size w W) => put_calls n A3 c3 a.length a W (u32_of_wf wn) rfl hl3 (Kd.C_below hr3 hW) hc3
  have F2 := fun (W : World) (hW : Below w.heap.size w W) => put_calls m A4 c4 b.length b W (u32_of_wf wm) rfl hl4 (Kd.C_below hr4 hW) hc4
  have F3 := fun (W : World) (hW : Below w.heap.size w W) => put_calls k A5 c5 c.length c W (u32_of_wf wk) rfl hl5 (Kd.C_below hr5 hW) hc5
  have T1 := putB_tag n a (u32_of_wf wn)
  have T2 := putB_tag m b (u32_of_wf wm)
  have T3 := putB_tag k c (u32_of_wf wk)
  have X64 := putB_length n a
  have Y64 := putB_length m b
  have Z64 := putB_length k c
  have X8 := putB_bytes n a (bytes_of_wf h83)
  have Y8 := putB_bytes m b (bytes_of_wf h84)
  have Z8 := putB_bytes k c (bytes_of_wf h85)
  generalize (putB n a).1 = X at F1 T1 X64 X8
  generalize (putB n a).2 = E at F1 T1
  generalize (putB m b).1 = Y at F2 T2 Y64 Y8
  generalize (putB m b).2 = F at F2 T2
  generalize (putB k c).1 = Z at F3 T3 Z64 Z8
  generalize (putB k c).2 = G at F3 T3
  have un := u32_of_wf wn
  have um := u32_of_wf wm
  replace F1 := Aside0.mk F1
  replace F2 := Aside0.mk F2
  replace F3 := Aside0.mk F3
  replace T1 := Aside0.mk T1
  replace T2 := Aside0.mk T2
  replace T3 := Aside0.mk T3
  replace X64 := Aside0.mk X64
  replace Y64 := Aside0.mk Y64
  replace Z64 := Aside0.mk Z64
  replace X8 := Aside0.mk X8
  replace Y8 := Aside0.mk Y8
  replace Z8 := Aside0.mk Z8
  have UN := Aside0.mk un
  have UM := Aside0.mk um
  clear un um wn wm wk hr3 hc3 hl3 h83 hr4 hc4 hl4 h84 hr5 hc5 hl5 h85 wb wo
  -- the mixes, and their laws
  obtain ⟨ONE, hONE⟩ : ∃ l, mixL X Y bits 4 = l := ⟨_, rfl⟩
  obtain ⟨TWO, hTWO⟩ : ∃ l, mixL ONE Z more 4 = l := ⟨_, rfl⟩
  have ONE64 := Aside0.mk (show ONE.length = 64 by rw [← hONE]; exact mixL_length X Y bits X64.out Y64.out 4 (Nat.le_refl _))
  have TWO64 := Aside0.mk (show TWO.length = 64 by rw [← hTWO]; exact mixL_length ONE Z more ONE64.out Z64.out 4 (Nat.le_refl _))
  have ONE8 := Aside0.mk (show Bytes ONE by rw [← hONE]; exact mix_bytes X Y bits X8.out Y8.out 4)
  have TWO8 := Aside0.mk (show Bytes TWO by rw [← hTWO]; exact mix_bytes ONE Z more ONE8.out Z8.out 4)
  have M1 := Aside0.mk (show ∀ W, Calls Try.prog 45 #[.agg (cellsOf X), .agg (cellsOf Y), .int .u8 bits] W fun e w' => e = .returned (.agg (cellsOf ONE)) ∧ Below W.heap.size W w' by rw [← hONE]; exact mix_calls X Y bits X64.out Y64.out)
  have M2 := Aside0.mk (show ∀ W, Calls Try.prog 45 #[.agg (cellsOf ONE), .agg (cellsOf Z), .int .u8 more] W fun e w' => e = .returned (.agg (cellsOf TWO)) ∧ Below W.heap.size W w' by rw [← hTWO]; exact mix_calls ONE Z more ONE64.out Z64.out)
  obtain ⟨early, hearly⟩ : ∃ q : Bool, decide (E ≠ 0 ∨ n = m ∨ n = k ∨ (m = k ∧ m ≠ 0)) = q := ⟨_, rfl⟩
  have HEy := Aside0.mk (show early = true ↔ (E ≠ 0 ∨ n = m ∨ n = k ∨ (m = k ∧ m ≠ 0)) by rw [← hearly]; exact decide_eq_true_iff)
  -- what holds where it goes on
  have OK1 := Aside0.mk (show early = false → getE ONE = 0 → ONE = X ∨ ONE = Y by
    intro h0 h1
    have hne : ¬ (E ≠ 0 ∨ n = m ∨ n = k ∨ (m = k ∧ m ≠ 0)) := fun hh => by have := HEy.out.2 hh; rw [h0] at this; cases this
    obtain ⟨h1, _⟩ := getE_ok _ h1
    rw [← hONE] at h1 ⊢
    rcases T1.out with ⟨_, a1, _, t1⟩ | ⟨e1, _⟩
    · rcases T2.out with ⟨_, _, _, t2⟩ | ⟨_, _, _, t2⟩
      · exact mix_one X Y bits X64.out Y64.out n m t1 t2 (fun e => hne (.inr (.inl e))) h1
      · exact mix_one X Y bits X64.out Y64.out n 0 t1 t2 (by omega) h1
    · exact absurd e1 (fun e => hne (.inl e)))
  have OK2 := Aside0.mk (show early = false → getE TWO = 0 → TWO = X ∨ TWO = Y ∨ TWO = Z by
    intro h0 h1
    have hne : ¬ (E ≠ 0 ∨ n = m ∨ n = k ∨ (m = k ∧ m ≠ 0)) := fun hh => by have := HEy.out.2 hh; rw [h0] at this; cases this
    obtain ⟨h1, _⟩ := getE_ok _ h1
    rw [← hTWO, ← hONE] at h1 ⊢
    have n1 : n ≠ m := fun e => hne (.inr (.inl e))
    have n2 : n ≠ k := fun e => hne (.inr (.inr (.inl e)))
    have n3 : m ≠ k ∨ m = 0 := by
      by_cases e : m = k
      · right
        by_cases e0 : m = 0
        · exact e0
        · exact absurd (.inr (.inr (.inr ⟨e, e0⟩))) hne
      · exact .inl e
    rcases T1.out with ⟨_, a1, _, t1⟩ | ⟨e1, _⟩
    · rcases T2.out with ⟨_, b1, _, t2⟩ | ⟨_, _, _, t2⟩
      · rcases T3.out with ⟨_, _, _, t3⟩ | ⟨_, _, _, t3⟩
        · exact mix_two X Y Z bits more X64.out Y64.out Z64.out n m k t1 t2 t3 n1 n2 n3 h1
        · exact mix_two X Y Z bits more X64.out Y64.out Z64.out n m 0 t1 t2 t3 n1 (by omega) (by omega) h1
      · rcases T3.out with ⟨_, _, _, t3⟩ | ⟨_, _, _, t3⟩
        · exact mix_two X Y Z bits more X64.out Y64.out Z64.out n 0 k t1 t2 t3 (by omega) n2 (.inr rfl) h1
        · exact mix_two X Y Z bits more X64.out Y64.out Z64.out n 0 0 t1 t2 t3 (by omega) (by omega) (.inr rfl) h1
    · exact absurd e1 (fun e => hne (.inl e)))
  have GR := Aside0.mk (show greatL ONE 4 ≤ max n m by
    refine great_le ONE _ ?_ ?_
    · have := UN.out; unfold U32 at this; omega
    · intro q hq
      have t1 : tagL X q ≤ n := by
        rcases T1.out with ⟨_, _, _, t⟩ | ⟨_, _, _, t⟩
        · rw [t q hq]; exact Int.le_refl _
        · rw [t q hq]; exact UN.out.1
      have t2 : tagL Y q ≤ m := by
        rcases T2.out with ⟨_, _, _, t⟩ | ⟨_, _, _, t⟩
        · rw [t q hq]; exact Int.le_refl _
        · rw [t q hq]; exact UM.out.1
      rw [← hONE, mix_tag X Y bits X64.out Y64.out q hq]
      split <;> omega)
  clear hONE hTWO hearly
  have S0 := Aside0.mk (St.mk (Below.refl w.heap.size w) (bl := []) (fun p hp => by cases hp))
  go_enter Try.func13, Try.ntmps13
  go_upto_region 4 with (first
    | (go_at_call 38; ((with_reducible refine (F1.out _ S0.out.below).mono ?_); rintro e w1 ⟨rfl, hb⟩; have S1 := Aside0.mk (S0.out.call hb); clear hb S0))
    | ((with_reducible refine gate_store47 (x := .tmp 17) rfl ?_); go_must (refine storeB rfl (.tmp 17) (.tmp 35) rfl w1.heap.size rfl X zeros X64.out rfl rfl (HasB.new w1 zeros _ rfl) ?_; intro w2 hs ht; have S2 := Aside0.mk (S1.out.stored hs ht); clear hs ht S1))
    | (go_at_call 38; ((with_reducible refine (F2.out _ S2.out.below).mono ?_); rintro e w3 ⟨rfl, hb⟩; have S3 := Aside0.mk (S2.out.call hb); clear hb S2))
    | ((with_reducible refine gate_store47 (x := .tmp 19) rfl ?_); go_must (refine storeB rfl (.tmp 19) (.tmp 41) rfl w3.heap.size rfl Y zeros Y64.out rfl rfl (HasB.new w3 zeros _ rfl) ?_; intro w4 hs ht; have L12 := Aside0.mk (S3.out.has (w1.heap.size, X) (by simp)).lt; have L03 := Aside0.mk S3.out.below.size; have S4 := Aside0.mk (S3.out.stored hs ht); clear hs ht S3))
    | (go_at_call 38; ((with_reducible refine (F3.out _ S4.out.below).mono ?_); rintro e w5 ⟨rfl, hb⟩; have S5 := Aside0.mk (S4.out.call hb); clear hb S4))
    | ((with_reducible refine gate_store47 (x := .tmp 21) rfl ?_); go_must (refine storeB rfl (.tmp 21) (.tmp 47) rfl w5.heap.size rfl Z zeros Z64.out rfl rfl (HasB.new w5 zeros _ rfl) ?_; intro w6 hs ht; have L13 := Aside0.mk (S5.out.has (w1.heap.size, X) (by simp)).lt; have L23 := Aside0.mk (S5.out.has (w3.heap.size, Y) (by simp)).lt; have L0 := Aside0.mk (S5.out.below.size); have S6 := Aside0.mk (S5.out.stored hs ht); clear hs ht S5)))
  go_cut [0, 1, 2, 18, 69] from 31 (fun s0 s1 s2 s18 s69 wc => s0 = .int .u32 n ∧ s1 = .int .u32 m ∧ s69 = .bool early ∧ wc = w6)
  case first =>
    by_cases e1 : E = 0
    · by_cases e2 : n = m
      · have he := Aside0.mk (HEy.out.2 (.inr (.inl e2)))
        go_wp2
        go_meet
        case rel => exact ⟨by first | rfl | rw [e2], by first | rfl | rw [e2], by first | (rw [he.out]; done) | (simp [he.out, *]; done), rfl⟩
      · by_cases e3 : n = k
        · have he := Aside0.mk (HEy.out.2 (.inr (.inr (.inl e3))))
          have e2' : ¬ k = m := fun h => e2 (e3.trans h)
          go_wp2
          go_meet
          case rel => exact ⟨by first | rfl | rw [e3], by first | rfl | rw [e3], by first | (rw [he.out]; done) | (simp [he.out, *]; done), rfl⟩
        · by_cases e4 : m = k
          · by_cases e5 : m = 0
            · have he : Aside0 (early = false) := ⟨by
                cases h : early
                · rfl
                · rcases HEy.out.1 h with h | h | h | h
                  · exact absurd e1 h
                  · exact absurd h e2
                  · exact absurd h e3
                  · exact absurd e5 h.2⟩
              have e6 : k = 0 := e4.symm.trans e5
              have e2' : ¬ n = 0 := fun h => e2 (h.trans e5.symm)
              clear e4
              go_wp2
              go_meet
              case rel => exact ⟨by first | rfl | rw [e5], by first | rfl | rw [e5], by first | (rw [he.out]; done) | (simp [he.out, *]; done), rfl⟩
            · have he := Aside0.mk (HEy.out.2 (.inr (.inr (.inr ⟨e4, e5⟩))))
              have e5' : ¬ k = 0 := fun h => e5 (e4.trans h)
              go_wp2
              go_meet
              case rel => exact ⟨by first | rfl | rw [e4], by first | rfl | rw [e4], by first | (rw [he.out]; done) | (simp [he.out, *]; done), rfl⟩
          · have he : Aside0 (early = false) := ⟨by
              cases h : early
              · rfl
              · rcases HEy.out.1 h with h | h | h | h
                · exact absurd e1 h
                · exact absurd h e2
                · exact absurd h e3
                · exact absurd h.1 e4⟩
            go_wp2
            go_meet
            case rel => exact ⟨rfl, rfl, by first | (rw [he.out]; done) | (simp [he.out, *]; done), rfl⟩
    · have he := Aside0.mk (HEy.out.2 (.inl e1))
      go_wp2
      go_meet
      case rel => exact ⟨rfl, rfl, by first | (rw [he.out]; done) | (simp [he.out, *]; done), rfl⟩
  case rest =>
    obtain ⟨rfl, rfl, rfl, rfl⟩ := hcut
    cases hy : early
    · replace hy := Aside0.mk hy
      go_upto_if 72 with fail
      go_cut [20] from 31 (fun s20 w7 => Aside0 (St w w7 [(w5.heap.size, Z), (w3.heap.size, Y), (w1.heap.size, X)]))
      case first =>
        by_cases f0 : F = 0
        · go_wp2
          go_meet
          case rel => exact S6
        · have hYz : Aside0 (Y = zeros) := ⟨by rcases T2.out with ⟨h, _⟩ | ⟨_, _, h, _⟩; exact absurd h f0; exact h⟩
          go_wp2_with (first
            | ((with_reducible refine gate_store47 (x := .tmp 19) rfl ?_); go_must (refine storeB rfl (.tmp 19) (.tmp 73) rfl w3.heap.size rfl zeros Y rfl Y64.out rfl (S6.out.has (w3.heap.size, Y) (by simp)) ?_; intro w7 hs ht; have S7 := Aside0.mk (S6.out.again w3.heap.size zeros L03.out (by intro p hp e; simp at hp; rcases hp with rfl | rfl | rfl <;> first | exact hYz.out | exact absurd e (by have := L23.out; have := L12.out; simp; omega)) hs ht); clear hs ht)))
          go_meet
          case rel => exact S7
      case rest =>
        clear S6
        have S7 := hcut
        go_upto_if 75 with fail
        go_cut [22] from 31 (fun s22 w8 => Aside0 (St w w8 [(w5.heap.size, Z), (w3.heap.size, Y), (w1.heap.size, X)]))
        case first =>
          by_cases f0 : G = 0
          · go_wp2
            go_meet
            case rel => exact S7
          · have hZz : Aside0 (Z = zeros) := ⟨by rcases T3.out with ⟨h, _⟩ | ⟨_, _, h, _⟩; exact absurd h f0; exact h⟩
            go_wp2_with (first
              | ((with_reducible refine gate_store47 (x := .tmp 21) rfl ?_); go_must (refine storeB rfl (.tmp 21) (.tmp 76) rfl w5.heap.size rfl zeros Z rfl Z64.out rfl (S7.out.has (w5.heap.size, Z) (by simp)) ?_; intro w8 hs ht; have S8 := Aside0.mk (S7.out.again w5.heap.size zeros L0.out (by intro p hp e; simp at hp; rcases hp with rfl | rfl | rfl <;> first | exact hZz.out | exact absurd e (by have := L23.out; have := L13.out; simp; omega)) hs ht); clear hs ht)))
            go_meet
            case rel => exact S8
        case rest =>
          clear S7
          have S8 := hcut
          clear hcut
          go_upto_region 14 with (first
            | ((with_reducible refine gate_load47 (x := .tmp 17) rfl ?_); go_must (refine loadB rfl (.tmp 17) rfl w1.heap.size rfl X X64.out (S8.out.has (w1.heap.size, X) (by simp)) ?_))
            | ((with_reducible refine gate_load47 (x := .tmp 19) rfl ?_); go_must (refine loadB rfl (.tmp 19) rfl w3.heap.size rfl Y Y64.out (S8.out.has (w3.heap.size, Y) (by simp)) ?_))
            | (go_at_call 45; ((with_reducible refine (M1.out _).mono ?_); rintro e w9 ⟨rfl, hb⟩; have S9 := Aside0.mk (S8.out.call hb); clear hb S8))
            | ((with_reducible refine gate_store47 (x := .tmp 23) rfl ?_); go_must (refine storeB rfl (.tmp 23) (.tmp 80) rfl w9.heap.size rfl ONE zeros ONE64.out rfl rfl (HasB.new w9 zeros _ rfl) ?_; intro w10 hs ht; have S10 := Aside0.mk (S9.out.stored hs ht); clear hs ht S9))
            | ((with_reducible refine gate_load47 (x := .tmp 23) rfl ?_); go_must (refine loadB rfl (.tmp 23) rfl w9.heap.size rfl ONE ONE64.out (by first | exact S10.out.has (w9.heap.size, ONE) (by simp) | exact S12.out.has (w9.heap.size, ONE) (by simp)) ?_))
            | ((with_reducible refine gate_load47 (x := .tmp 21) rfl ?_); go_must (refine loadB rfl (.tmp 21) rfl w5.heap.size rfl Z Z64.out (S10.out.has (w5.heap.size, Z) (by simp)) ?_))
            | (go_at_call 45; ((with_reducible refine (M2.out _).mono ?_); rintro e w11 ⟨rfl, hb⟩; have S11 := Aside0.mk (S10.out.call hb); clear hb S10))
            | ((with_reducible refine gate_store47 (x := .tmp 24) rfl ?_); go_must (refine storeB rfl (.tmp 24) (.tmp 84) rfl w11.heap.size rfl TWO zeros TWO64.out rfl rfl (HasB.new w11 zeros _ rfl) ?_; intro w12 hs ht; have S12 := Aside0.mk (S11.out.stored hs ht); clear hs ht S11))
            | (go_at_call 40; ((with_reducible refine (gete_calls ONE ONE64.out ONE8.out _).mono ?_); rintro e w13 ⟨r1, v1, rfl, hb⟩; have S13 := Aside0.mk (S12.out.call hb); clear hb S12))
            | ((with_reducible refine gate_load47 (x := .tmp 24) rfl ?_); go_must (refine loadB rfl (.tmp 24) rfl w11.heap.size rfl TWO TWO64.out (S13.out.has (w11.heap.size, TWO) (by simp)) ?_))
            | (go_at_call 40; ((with_reducible refine (gete_calls TWO TWO64.out TWO8.out _).mono ?_); rintro e w14 ⟨r2, v2, rfl, hb⟩; have S14 := Aside0.mk (S13.out.call hb); clear hb S13)))
          go_cut [27, 30, 127] from 31 (fun s27 s30 s127 wc => s127 = .bool false ∧ wc = w14)
          case first =>
            obtain ⟨p1, hp1⟩ : ∃ q, decide (ONE = X) = q := ⟨_, rfl⟩
            obtain ⟨p2, hp2⟩ : ∃ q, decide (ONE = Y) = q := ⟨_, rfl⟩
            obtain ⟨q1, hq1⟩ : ∃ q, decide (TWO = X) = q := ⟨_, rfl⟩
            obtain ⟨q2, hq2⟩ : ∃ q, decide (TWO = Y) = q := ⟨_, rfl⟩
            obtain ⟨q3, hq3⟩ : ∃ q, decide (TWO = Z) = q := ⟨_, rfl⟩
            have P1 : ∀ W, (Op.equalIn 10000 47 (.agg (cellsOf ONE)) (.agg (cellsOf X))).run Try.prog W = .ok p1 W := fun W => by rw [eq47 W _ _ ONE64.out X64.out, hp1]
            have P2 : ∀ W, (Op.equalIn 10000 47 (.agg (cellsOf ONE)) (.agg (cellsOf Y))).run Try.prog W = .ok p2 W := fun W => by rw [eq47 W _ _ ONE64.out Y64.out, hp2]
            have Q1 : ∀ W, (Op.equalIn 10000 47 (.agg (cellsOf TWO)) (.agg (cellsOf X))).run Try.prog W = .ok q1 W := fun W => by rw [eq47 W _ _ TWO64.out X64.out, hq1]
            have Q2 : ∀ W, (Op.equalIn 10000 47 (.agg (cellsOf TWO)) (.agg (cellsOf Y))).run Try.prog W = .ok q2 W := fun W => by rw [eq47 W _ _ TWO64.out Y64.out, hq2]
            have Q3 : ∀ W, (Op.equalIn 10000 47 (.agg (cellsOf TWO)) (.agg (cellsOf Z))).run Try.prog W = .ok q3 W := fun W => by rw [eq47 W _ _ TWO64.out Z64.out, hq3]
            have D1 : ¬ getE ONE = 0 ∨ (getE ONE = 0 ∧ p1 = true) ∨ (getE ONE = 0 ∧ p1 = false ∧ p2 = true) := by
              by_cases h0 : getE ONE = 0
              · have h := OK1.out hy.out h0
                cases p1
                · rcases h with h | h
                  · rw [decide_eq_true h] at hp1; cases hp1
                  · exact .inr (.inr ⟨h0, rfl, by rw [← hp2]; exact decide_eq_true h⟩)
                · exact .inr (.inl ⟨h0, rfl⟩)
              · exact .inl h0
            have D2 : ¬ getE TWO = 0 ∨ (getE TWO = 0 ∧ q1 = true) ∨ (getE TWO = 0 ∧ q1 = false ∧ q2 = true) ∨ (getE TWO = 0 ∧ q1 = false ∧ q2 = false ∧ q3 = true) := by
              by_cases h0 : getE TWO = 0
              · have h := OK2.out hy.out h0
                cases q1
                · cases q2
                  · rcases h with h | h | h
                    · rw [decide_eq_true h] at hq1; cases hq1
                    · rw [decide_eq_true h] at hq2; cases hq2
                    · exact .inr (.inr (.inr ⟨h0, rfl, rfl, by rw [← hq3]; exact decide_eq_true h⟩))
                  · exact .inr (.inr (.inl ⟨h0, rfl, rfl⟩))
                · exact .inr (.inl ⟨h0, rfl⟩)
              · exact .inl h0
            clear hp1 hp2 hq1 hq2 hq3
            rcases D1 with d | ⟨d, rfl⟩ | ⟨d, rfl, rfl⟩ <;> rcases D2 with f | ⟨f, rfl⟩ | ⟨f, rfl, rfl⟩ | ⟨f, rfl, rfl, rfl⟩
            all_goals
              try (have d' : (getE ONE == 0) = false := by simpa using d)
              try (have f' : (getE TWO == 0) = false := by simpa using f)
              go_wp2_with (first
              | ((with_reducible refine gate_gd rfl ?_); refine skip_guard (by rfl) ?_)
              | ((with_reducible refine gate_load47 (x := .tmp 23) rfl ?_); (try (refine gate_guard (by rfl) ?_; dsimp only)); go_must (refine loadB rfl (.tmp 23) rfl w9.heap.size rfl ONE ONE64.out (S14.out.has (w9.heap.size, ONE) (by simp)) ?_))
              | ((with_reducible refine gate_load47 (x := .tmp 17) rfl ?_); (try (refine gate_guard (by rfl) ?_; dsimp only)); go_must (refine loadB rfl (.tmp 17) rfl w1.heap.size rfl X X64.out (S14.out.has (w1.heap.size, X) (by simp)) ?_))
              | ((with_reducible refine gate_load47 (x := .tmp 19) rfl ?_); (try (refine gate_guard (by rfl) ?_; dsimp only)); go_must (refine loadB rfl (.tmp 19) rfl w3.heap.size rfl Y Y64.out (S14.out.has (w3.heap.size, Y) (by simp)) ?_))
              | ((with_reducible refine gate_load47 (x := .tmp 24) rfl ?_); (try (refine gate_guard (by rfl) ?_; dsimp only)); go_must (refine loadB rfl (.tmp 24) rfl w11.heap.size rfl TWO TWO64.out (S14.out.has (w11.heap.size, TWO) (by simp)) ?_))
              | ((with_reducible refine gate_load47 (x := .tmp 21) rfl ?_); (try (refine gate_guard (by rfl) ?_; dsimp only)); go_must (refine loadB rfl (.tmp 21) rfl w5.heap.size rfl Z Z64.out (S14.out.has (w5.heap.size, Z) (by simp)) ?_)))
              go_meet
              case rel => exact ⟨rfl, rfl⟩
          case rest =>
            obtain ⟨rfl, rfl⟩ := hcut
            go_wp2_with (first
              | ((with_reducible refine gate_load47 (x := .tmp 23) rfl ?_); go_must (refine loadB rfl (.tmp 23) rfl w9.heap.size rfl ONE ONE64.out (S14.out.has (w9.heap.size, ONE) (by simp)) ?_))
              | (go_at_call 43; ((with_reducible refine (greatest_calls ONE ONE64.out ONE8.out _).mono ?_); rintro e w15 ⟨rfl, hb⟩; have S15 := Aside0.mk (S14.out.call hb); clear hb S14))
              | (go_at_call 47; ((with_reducible refine (lives05 _).mono ?_); rintro e w16 ⟨rfl, hb⟩; have S16 := Aside0.mk (S15.out.call hb); clear hb S15)))
            all_goals first
              | (exfalso; have := GR.out; omega)
              | (go_ret; exact ⟨rfl, S16.out.below⟩)
    · go_wp2_with (first
        | (go_at_call 47; ((with_reducible refine (lives05 _).mono ?_); rintro e w7 ⟨rfl, hb⟩; have S7 := Aside0.mk (S6.out.call hb); clear hb)))
      go_ret
      exact ⟨rfl, S7.out.below⟩
end Go.Proofs.Ytjenbffnpekbjaa.F
