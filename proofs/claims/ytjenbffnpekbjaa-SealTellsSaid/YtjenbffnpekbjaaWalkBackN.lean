/- NumBack: what is put is got, wherever it stands: the walk, where what stands around is short. -/
import Derived.Test.YtjenbffnpekbjaaLives01
import Derived.Deep.DeepMust
namespace Go.Proofs.Ytjenbffnpekbjaa.F
open Go.RowKit Go.Proofs.YtjenbffnpekbjaaW.PrintWords Go.Proofs.YtjenbffnpekbjaaW.PrintLast Go.Proofs.YtjenbffnpekbjaaW.PrintMore
set_option linter.unusedVariables false
theorem own_C {w : World} {base : Nat} {v : Value} {xs : List Int} (h : w.ownsRow base 5 1 v xs.length (encs (Value.int .u8) xs)) : ∃ A c, v = .slice A xs.length c ∧ xs.length ≤ c ∧ Kd.C (Kd.int .u8) w A xs.length xs := by
  have hr : Kd.R (Kd.int .u8) 5 w base (fun _ => True) v xs := Kd.R_of_own h (fun _ _ => trivial)
  obtain ⟨A, c, e⟩ := Kd.R_slice hr
  subst e
  exact ⟨A, c, rfl, (Kd.R_reads' hr).2.1, (Kd.R_reads' hr).2.2⟩
theorem own_reads_at {w : World} {base n c : Nat} {A : Option Addr} {xs : List Int} (h : w.ownsRow base 5 1 (.slice A n c) xs.length (encs (Value.int .u8) xs)) : ReadsOf (Value.int .u8) (0 : Int) w A n xs := by
  obtain ⟨A', c', e, _, hC⟩ := own_C h
  injection e with e1 e2 e3
  subst e1 e2
  exact Kd.reads_of_C hC
theorem own_none {w w1 : World} {base n c m : Nat} {A : Option Addr} {xs : List Value} (h : w.ownsRow base 5 1 (.slice A n c) m xs) (hg : w.grownBy w1 (Value.slice none 0 0).ownBlock) : w1.ownsRow base 5 1 (.slice A n c) m xs := by
  refine own_other h hg ?_
  cases hq : (Value.slice A n c).ownBlock with
  | none => exact Or.inl rfl
  | some k => exact Or.inr (by simp [Value.ownBlock])
set_option maxHeartbeats 2000000 in
set_option maxRecDepth 100000 in
theorem back_no (n size : Int) (A2 : Option Addr) (c2 : Nat) (l2 : List Int) (A3 : Option Addr) (c3 : Nat) (l3 : List Int) (w : World) (un : U64 n) (is : I64 size) (h : putR n size = ([], 2)) :
    Calls Try.prog 8 #[.int .u64 n, .int .i64 size, .slice A2 l2.length c2, .slice A3 l3.length c3] w fun e w' => e = .returned (.bool true) ∧ Below w.heap.size w w' := by
  have F1 := Aside0.mk (put_at n size [] 2 · un is h)
  clear un is h
  go_enter Try.func8, Try.ntmps8
  go_wp2_with (first
    | (go_at_call 26; ((with_reducible refine (F1.out _).mono ?_); rintro e w2 ⟨v2, rfl, ho, hb⟩; obtain ⟨A4, c4, e2⟩ := Kd.R_slice ho; subst e2; have HB2 := Aside0.mk hb; clear ho hb F1))
    | (go_at_call 37; ((with_reducible refine (lives01 _).mono ?_); rintro e w6 ⟨rfl, hb⟩; have HB6 := Aside0.mk (below_step HB2.out hb); clear hb HB2)))
  go_ret
  exact ⟨rfl, HB6.out⟩
theorem get_whole (n : Int) (s : Nat) (a b : List Int) (hs : IsSz s) (h0 : 0 ≤ n) (hn : n < top s) : getR (a ++ bs n s ++ b) a.length s = (n, 0) := by
  have hl := bs_length n s hs
  unfold getR
  rw [if_neg (by simp [hs]; omega), if_neg (by simp [hl]; omega), Int.toNat_natCast, Int.toNat_natCast, List.append_assoc, List.drop_left]
  have : (bs n s ++ b).take s = bs n s := by
    have := List.take_left (l₁ := bs n s) (l₂ := b)
    rwa [hl] at this
  rw [this, be_bs n s hs h0 hn]
theorem get_cut (n : Int) (s : Nat) (a b : List Int) (hs : IsSz s) : getR ((a ++ bs n s ++ b).take (a.length + s - 1)) a.length s = (0, 4) := by
  have hl := bs_length n s hs
  have h1 : 1 ≤ s := by unfold IsSz at hs; omega
  have hlen : ((a ++ bs n s ++ b).take (a.length + s - 1)).length = a.length + s - 1 := by simp [hl]; omega
  unfold getR
  rw [hlen, if_neg (by simp [hs]; omega), if_pos (by omega)]
set_option maxHeartbeats 4000000 in
set_option maxRecDepth 100000 in
theorem back_yes (n : Int) (s : Nat) (A2 : Option Addr) (c2 : Nat) (l2 : List Int) (A3 : Option Addr) (c3 : Nat) (l3 : List Int) (w : World) (un : U64 n) (hs : IsSz s) (hn : n < top s)
    (h2 : Kd.C (Kd.int .u8) w A2 l2.length l2) (hc2 : l2.length ≤ c2) (h3 : Kd.C (Kd.int .u8) w A3 l3.length l3) (hc3 : l3.length ≤ c3) (b2 : l2.length ≤ 1048576) (b3 : l3.length ≤ 1048576) (h82 : ∀ c ∈ l2, 0 ≤ c ∧ c < 256) (h83 : ∀ c ∈ l3, 0 ≤ c ∧ c < 256) :
    Calls Try.prog 8 #[.int .u64 n, .int .i64 s, .slice A2 l2.length c2, .slice A3 l3.length c3] w fun e w' => e = .returned (.bool true) ∧ Below w.heap.size w w' := by
  have is : I64 s := by unfold I64; unfold IsSz at hs; omega
  have hs8 : 1 ≤ s ∧ s ≤ 8 := by unfold IsSz at hs; omega
  have hla : I64 (l2.length : Int) := by unfold I64; omega
  have hbl := bs_length n s hs
  obtain ⟨b, hb⟩ : ∃ b, b = bs n s := ⟨_, rfl⟩
  rw [← hb] at hbl
  have F1 := Aside0.mk (put_at n s b 0 · un is (by unfold putR; rw [Int.toNat_natCast, if_pos ⟨hs, hn⟩, hb]))
  obtain ⟨l4, hl4⟩ : ∃ l, l = l2 ++ b := ⟨_, rfl⟩
  obtain ⟨la, hlla⟩ : ∃ l, l = l4 ++ l3 := ⟨_, rfl⟩
  have hlist : la = (l2 ++ bs n s) ++ l3 := by rw [hlla, hl4, hb]
  have hall : la.length = l2.length + s + l3.length := by rw [hlla, hl4]; simp [hbl, Nat.add_assoc]
  have h8all : ∀ c ∈ la, 0 ≤ c ∧ c < 256 := by
    intro c hc
    rw [hlist, List.mem_append, List.mem_append] at hc
    rcases hc with (hc | hc) | hc
    · exact h82 c hc
    · exact bs_bytes n s c hc
    · exact h83 c hc
  have hcutl : (la.take (l2.length + s - 1)).length = l2.length + s - 1 := by rw [List.length_take, hall]; omega
  have F2 := Aside0.mk (fun (A0 : Option Addr) (c0 : Nat) (w : World) (hr : Kd.C (Kd.int .u8) w A0 la.length la) (hc : la.length ≤ c0) => get_at A0 c0 la l2.length s n 0 w hr hc (by rw [hall]; omega) h8all hla is (by rw [hlist]; exact get_whole n s l2 l3 hs un.1 hn))
  have hF3 := (fun (A0 : Option Addr) (c0 : Nat) (w : World) (hr : Kd.C (Kd.int .u8) w A0 la.length la) (hc : la.length ≤ c0) => get_at A0 c0 (la.take (l2.length + s - 1)) l2.length s 0 4 w (Kd.C_take (m := l2.length + s - 1) hr (by rw [hall]; omega)) (by rw [hcutl]; rw [hall] at hc; omega) (by rw [hcutl]; omega) (fun c hc => h8all c (List.mem_of_mem_take hc)) hla is (by rw [hlist]; exact get_cut n s l2 l3 hs))
  rw [hcutl] at hF3
  have F3 := Aside0.mk hF3
  have HA := Aside0.mk hall
  have HL4 := Aside0.mk hl4
  have HLA := Aside0.mk hlla
  have HBL := Aside0.mk hbl
  have H2 := Aside0.mk h2
  have H3 := Aside0.mk h3
  have B2 := Aside0.mk b2
  have B3 := Aside0.mk b3
  have HS8 := Aside0.mk hs8
  obtain ⟨hs1, hs9⟩ := hs8
  have HCUT : Aside0 (∀ (A : Option Addr) (c : Nat), la.length ≤ c → ∀ W : World, (Instr.slice 23 (.slice A la.length c) none (some (.int .i64 ((l2.length : Int) + (s : Int) - 1))) none).run Try.prog W = .ok (.slice A (l2.length + s - 1) c) W) := by
    constructor
    intro A c hc W
    obtain ⟨i0, hi, _, _, _⟩ := info_parts info5
    have := cut_to (P := Try.prog) 23 5 .i64 Try.underlying23 hi A la.length c ((l2.length : Int) + (s : Int) - 1) (by omega) (by omega) hc W
    rwa [show ((l2.length : Int) + (s : Int) - 1).toNat = l2.length + s - 1 by omega] at this
  clear is hla hb hall h8all hcutl h2 h3 h82 h83 hs hn un hbl hF3 hl4 hlla hlist hc2 hc3
  go_enter Try.func8, Try.ntmps8
  go_wp2_with (first
    | (go_at_call 26; ((with_reducible refine (F1.out _).mono ?_); rintro e w2 ⟨v2, rfl, ho, hb⟩; obtain ⟨A4, c4, e2⟩ := Kd.R_slice ho; rw [HBL.out] at e2; subst e2; have HO := Aside0.mk (Kd.own_of_R ho); have HB2 := Aside0.mk hb; clear ho hb F1))
    | ((with_reducible refine gate_builtin (b := .append) (xs := #[.tmp 38, .tmp 39]) rfl ?_); at_builtin; refine print_append_row_of (w0 := w) (Value.int .u8) (0 : Int) w.heap.size rfl (.tmp 38) (.tmp 39) 23 5 (.int .u8 0) 1 rfl Try.underlying23 info5 rfl (by decide) (fun _ => rfl) (.slice none 0 0) [] l2 _ _ _ rfl rfl ?o1 ?r1 ?b1 ?s1 ?l1 ?_; (case o1 => exact own_nil _ _ _ _); (case r1 => exact Kd.reads_of_C (Kd.C_below H2.out HB2.out)); (case b1 => exact HB2.out); (case s1 => exact HB2.out.size); (case l1 => have := B2.out; simp; omega); intro v3 w3 ho hb hg hat; rw [List.nil_append] at ho; have HO3 := Aside0.mk ho; have HOb := Aside0.mk (own_none HO.out hg); have HB3 := Aside0.mk hb; clear ho hb hg hat HO HB2; obtain ⟨A5, c5, e5⟩ := own_slice HO3.out; subst e5)
    | ((with_reducible refine gate_builtin (b := .append) (xs := #[.tmp 41, .tmp 42]) rfl ?_); at_builtin; refine print_append_row_of (w0 := w) (Value.int .u8) (0 : Int) w.heap.size rfl (.tmp 41) (.tmp 42) 23 5 (.int .u8 0) 1 rfl Try.underlying23 info5 rfl (by decide) (fun _ => rfl) _ l2 b _ _ _ rfl rfl ?o1 ?r1 ?b1 ?s1 ?l1 ?_; (case o1 => exact HO3.out); (case r1 => exact own_reads_at HOb.out); (case b1 => exact HB3.out); (case s1 => exact HB3.out.size); (case l1 => have := B2.out; have := HS8.out; simp; omega); intro v4 w4 ho hb hg hat; rw [← HL4.out] at ho; have HO4 := Aside0.mk ho; have HB4 := Aside0.mk hb; clear ho hb hg hat HO3 HOb HB3; obtain ⟨A6, c6, e6⟩ := own_slice HO4.out; subst e6)
    | ((with_reducible refine gate_builtin (b := .append) (xs := #[.tmp 44, .tmp 45]) rfl ?_); at_builtin; refine print_append_row_of (w0 := w) (Value.int .u8) (0 : Int) w.heap.size rfl (.tmp 44) (.tmp 45) 23 5 (.int .u8 0) 1 rfl Try.underlying23 info5 rfl (by decide) (fun _ => rfl) _ l4 l3 _ _ _ rfl rfl ?o1 ?r1 ?b1 ?s1 ?l1 ?_; (case o1 => exact HO4.out); (case r1 => exact Kd.reads_of_C (Kd.C_below H3.out HB4.out)); (case b1 => exact HB4.out); (case s1 => exact HB4.out.size); (case l1 => have := B2.out; have := B3.out; have := HS8.out; have := HBL.out; have := HL4.out; have : l4.length = l2.length + s := (by rw [HL4.out, List.length_append, HBL.out]); simp; omega); intro v5 w5 ho hb hg hat; rw [← HLA.out] at ho; have HB5 := Aside0.mk hb; obtain ⟨A7, c7, e7, hc7, hC7⟩ := own_C ho; have HC7 := Aside0.mk hC7; have HCc := Aside0.mk hc7; have hcut := HCUT.out A7 c7 hc7; subst e7; clear ho hb hg hat HO4 HB4 hc7 hC7)
    | (go_at_call 28; ((with_reducible refine (F2.out _ _ _ HC7.out HCc.out).mono ?_); rintro e w6 ⟨rfl, hb⟩; have HC8 := Aside0.mk (Kd.C_below HC7.out hb); have HB6 := Aside0.mk (below_step HB5.out hb); clear hb HC7 HB5))
    | (go_at_call 28; ((with_reducible refine (F3.out _ _ _ HC8.out HCc.out).mono ?_); rintro e w7 ⟨rfl, hb⟩; have HB7 := Aside0.mk (below_step HB6.out hb); clear hb HC8 HB6))
    | (go_at_call 37; ((with_reducible refine (lives01 _).mono ?_); rintro e w8 ⟨rfl, hb⟩; have HB8 := Aside0.mk (below_step HB7.out hb); clear hb HB7)))
  go_ret
  exact ⟨rfl, HB8.out⟩
theorem backn_walk (n size : Int) (A2 : Option Addr) (c2 : Nat) (l2 : List Int) (A3 : Option Addr) (c3 : Nat) (l3 : List Int) (w : World) (wn : (Lit.int .u64 n).wf = true) (ws : (Lit.int .i64 size).wf = true)
    (h2 : Kd.C (Kd.int .u8) w A2 l2.length l2) (hc2 : l2.length ≤ c2) (_hl2 : l2.length ≤ 140737488351232) (h82 : ∀ x ∈ l2, (Lit.int .u8 x).wf = true) (b2 : l2.length ≤ 1048576)
    (h3 : Kd.C (Kd.int .u8) w A3 l3.length l3) (hc3 : l3.length ≤ c3) (_hl3 : l3.length ≤ 140737488351232) (h83 : ∀ x ∈ l3, (Lit.int .u8 x).wf = true) (b3 : l3.length ≤ 1048576) :
    Calls Try.prog 8 #[.int .u64 n, .int .i64 size, .slice A2 l2.length c2, .slice A3 l3.length c3] w fun e w' => e = .returned (.bool true) ∧ Below w.heap.size w w' := by
  have un := u64_of_wf wn
  have is := i64_of_wf ws
  by_cases hn : IsSz size ∧ n < top size.toNat
  · obtain ⟨s, rfl⟩ := Int.eq_ofNat_of_zero_le (show 0 ≤ size by have := hn.1; unfold IsSz at this; omega)
    rw [Int.toNat_natCast] at hn
    exact back_yes n s A2 c2 l2 A3 c3 l3 w un hn.1 hn.2 h2 hc2 h3 hc3 b2 b3 (fun c hc => by have := bounds_u8 (h82 c hc); omega) (fun c hc => by have := bounds_u8 (h83 c hc); omega)
  · exact back_no n size A2 c2 l2 A3 c3 l3 w un is (by unfold putR; rw [if_neg hn])
end Go.Proofs.Ytjenbffnpekbjaa.F
