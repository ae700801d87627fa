/- Plain laws of numbers as bytes: what num's functions and the reference's answer is one and the same. -/
import Derived.Test.YtjenbffnpekbjaaFn2
import Derived.Laws.BitsAllLaws
import Derived.Laws.Bits64b
import Derived.OpenShut
import Derived.Lib.ItoaNum
namespace Go.Proofs.Ytjenbffnpekbjaa.F
open Go.RowKit Go.Proofs.YtjenbffnpekbjaaW.PrintWords Go.Proofs.YtjenbffnpekbjaaW.PrintLast Go.Proofs.YtjenbffnpekbjaaW.PrintMore
set_option linter.unusedVariables false

/-- A size of a number. -/
def IsSz (n : Int) : Prop := n = 1 ∨ n = 2 ∨ n = 4 ∨ n = 8
instance (n : Int) : Decidable (IsSz n) := by unfold IsSz; infer_instance
def I64 (n : Int) : Prop := -9223372036854775808 ≤ n ∧ n ≤ 9223372036854775807
def U64 (n : Int) : Prop := 0 ≤ n ∧ n ≤ 18446744073709551615
theorem i64_of_wf {n : Int} (h : (Lit.int .i64 n).wf = true) : I64 n := bounds_i64 h
theorem u64_of_wf {n : Int} (h : (Lit.int .u64 n).wf = true) : U64 n := bounds_u64 h

/-- A number's bytes. -/
def bs (x : Int) : Nat → List Int
  | 1 => [x % 256]
  | 2 => [x / 256 % 256, x % 256]
  | 4 => [x / 16777216 % 256, x / 65536 % 256, x / 256 % 256, x % 256]
  | 8 => [x / 72057594037927936 % 256, x / 281474976710656 % 256, x / 1099511627776 % 256, x / 4294967296 % 256, x / 16777216 % 256, x / 65536 % 256, x / 256 % 256, x % 256]
  | _ => []
/-- Below 256 to the power of a size. -/
def top : Nat → Int
  | 1 => 256
  | 2 => 65536
  | 4 => 4294967296
  | _ => 18446744073709551616
def putR (x n : Int) : List Int × Int := if IsSz n ∧ x < top n.toNat then (bs x n.toNat, 0) else ([], 2)

theorem sized_eq (n : Int) (hn : I64 n) : num_sized.f n = some (decide (IsSz n)) := by
  unfold num_sized.f
  unfold I64 at hn
  by_cases h1 : n ≥ 1
  · rw [if_pos h1]
    by_cases h8 : n ≤ 8
    · rw [if_pos h8]
      have h : n = 1 ∨ n = 2 ∨ n = 3 ∨ n = 4 ∨ n = 5 ∨ n = 6 ∨ n = 7 ∨ n = 8 := by omega
      rcases h with rfl | rfl | rfl | rfl | rfl | rfl | rfl | rfl <;> decide +kernel
    · rw [if_neg h8, decide_eq_false (by unfold IsSz; omega)]
  · rw [if_neg h1, decide_eq_false (by unfold IsSz; omega)]
theorem size_eq (n : Int) : wharfageref01_size.f n = some (decide (IsSz n)) := by
  unfold wharfageref01_size.f
  by_cases h1 : n = 1
  · rw [if_pos h1, decide_eq_true (by unfold IsSz; omega)]
  rw [if_neg h1]
  by_cases h2 : n = 2
  · rw [if_pos h2, decide_eq_true (by unfold IsSz; omega)]
  rw [if_neg h2]
  by_cases h4 : n = 4
  · rw [if_pos h4, decide_eq_true (by unfold IsSz; omega)]
  rw [if_neg h4]
  by_cases h8 : n = 8
  · subst h8; decide
  · rw [decide_eq_false (by unfold IsSz; omega)]
    simp [h8]
theorem bitLen_iff (x k : Nat) (hk : k ≤ 64) (hx : x < 2 ^ 64) : Lib.bitLen x ≤ k ↔ x < 2 ^ k := by
  constructor
  · intro h
    by_cases h0 : x = 0
    · subst h0; exact Nat.two_pow_pos k
    · have := (Lib.bitLenAux_bounds 64 x hx h0).2.2
      exact Nat.lt_of_lt_of_le this (Nat.pow_le_pow_right (by omega) h)
  · exact Lib.bitLen_le x k hk
theorem len64_eq (x : Int) (hx : U64 x) (k : Nat) : bits_Len64.f k x = some ((Lib.bitLen x.toNat : Nat) : Int) := by
  unfold bits_Len64.f
  exact if_pos hx

theorem put_loop1 (x : Int) : num_Put.l0 11 x (List.replicate 1 0) 0 = some (bs x 1, 0) := by simp [num_Put.l0, wrap64, bs]
theorem put_loop2 (x : Int) : num_Put.l0 11 x (List.replicate 2 0) 1 = some (bs x 2, 0) := by simp [num_Put.l0, wrap64, bs, List.replicate]
theorem put_loop4 (x : Int) : num_Put.l0 11 x (List.replicate 4 0) 3 = some ([x / 256 / 256 / 256 % 256, x / 256 / 256 % 256, x / 256 % 256, x % 256], 0) := by simp [num_Put.l0, wrap64, List.replicate]
theorem put_loop8 (x : Int) : num_Put.l0 11 x (List.replicate 8 0) 7 = some ([x / 256 / 256 / 256 / 256 / 256 / 256 / 256 % 256, x / 256 / 256 / 256 / 256 / 256 / 256 % 256, x / 256 / 256 / 256 / 256 / 256 % 256, x / 256 / 256 / 256 / 256 % 256, x / 256 / 256 / 256 % 256, x / 256 / 256 % 256, x / 256 % 256, x % 256], 0) := by simp [num_Put.l0, wrap64, List.replicate]
theorem num_put_eq (x n : Int) (hx : U64 x) (hn : I64 n) : num_Put.f 12 x n = some (putR x n) := by
  unfold num_Put.f
  rw [sized_eq n hn, Option.bind_some]
  unfold putR
  have hx' := hx
  unfold U64 at hx'
  by_cases h : IsSz n
  · rw [decide_eq_true h, if_pos rfl, len64_eq x hx, Option.bind_some]
    have key : ∀ s : Nat, s ≤ 8 → (((Lib.bitLen x.toNat : Nat) : Int) > ((8 * s : Nat) : Int) ↔ ¬ x.toNat < 2 ^ (8 * s)) := by
      intro s hs
      rw [← bitLen_iff x.toNat (8 * s) (by omega) (by omega)]
      omega
    have go : ∀ (s : Nat) (L : List Int), 1 ≤ s → s ≤ 8 → n = (s : Int) → (x.toNat < 2 ^ (8 * s) ↔ x < top s) → (∀ _h : x < top s, num_Put.l0 11 x (List.replicate s 0) ((s : Int) - 1) = some (bs x s, 0)) →
        num_Put.j0 12 x n (decide (((Lib.bitLen x.toNat : Nat) : Int) > wrap64 (8 * n))) = some (if IsSz n ∧ x < top n.toNat then (bs x n.toNat, 0) else ([], 2)) := by
      intro s _ hs1 hs8 hns htop hloop
      subst hns
      have e1 : wrap64 (8 * (s : Int)) = ((8 * s : Nat) : Int) := by unfold wrap64; omega
      have e2 : wrap64 ((s : Int) - 1) = (s : Int) - 1 := by unfold wrap64; omega
      rw [e1, Int.toNat_natCast]
      by_cases hlt : x < top s
      · rw [decide_eq_false (by rw [key s hs8]; simpa using htop.2 hlt), if_pos ⟨h, hlt⟩]
        simp only [num_Put.j0]
        rw [if_neg (by simp), if_pos (by omega), if_pos (by omega), Int.toNat_natCast, e2]
        exact hloop hlt
      · rw [decide_eq_true ((key s hs8).2 (fun hh => hlt (htop.1 hh))), if_neg (fun hh => hlt hh.2)]
        simp only [num_Put.j0]
        rfl
    rcases h with rfl | rfl | rfl | rfl
    · exact go 1 [] (by omega) (by omega) rfl (by simp [top] <;> omega) (fun _ => put_loop1 x)
    · exact go 2 [] (by omega) (by omega) rfl (by simp [top] <;> omega) (fun _ => put_loop2 x)
    · refine go 4 [] (by omega) (by omega) rfl (by simp [top] <;> omega) (fun _ => (put_loop4 x).trans ?_)
      simp only [bs, Option.some.injEq, Prod.mk.injEq, List.cons.injEq, and_true]
      omega
    · refine go 8 [] (by omega) (by omega) rfl (by simp [top] <;> omega) (fun _ => (put_loop8 x).trans ?_)
      simp only [bs, Option.some.injEq, Prod.mk.injEq, List.cons.injEq, and_true]
      omega
  · rw [decide_eq_false h, if_neg (by simp), if_neg (fun hh => h hh.1)]
    simp only [num_Put.j0]
    rfl

theorem rput_loop1 (x : Int) : wharfageref01_Put.l0 11 x [] 0 = some ([x % 256], 0) := by simp [wharfageref01_Put.l0, wrap64, IntKind.wrap_u64, shr]
theorem rput_loop2 (x : Int) : wharfageref01_Put.l0 11 x [] 1 = some ([x / 256 % 256, x % 256], 0) := by simp [wharfageref01_Put.l0, wrap64, IntKind.wrap_u64, shr, IntKind.bits]
theorem rput_loop4 (x : Int) : wharfageref01_Put.l0 11 x [] 3 = some (bs x 4, 0) := by simp [wharfageref01_Put.l0, wrap64, IntKind.wrap_u64, shr, IntKind.bits, bs]
theorem rput_loop8 (x : Int) : wharfageref01_Put.l0 11 x [] 7 = some (bs x 8, 0) := by simp [wharfageref01_Put.l0, wrap64, IntKind.wrap_u64, shr, IntKind.bits, bs]
theorem ref_put_eq (x n : Int) (hx : U64 x) : wharfageref01_Put.f 12 x n = some (putR x n) := by
  unfold wharfageref01_Put.f
  rw [size_eq n, Option.bind_some]
  unfold putR
  have hx' := hx
  unfold U64 at hx'
  by_cases h : IsSz n
  · rw [decide_eq_true h, if_pos rfl]
    have h2 := h
    rcases h with rfl | rfl | rfl | rfl
    · have e : shl .u64 1 (IntKind.u64.wrap (wrap64 (8 * 1))) = 256 := by decide +kernel
      rw [if_pos (by omega), if_pos (by decide +kernel), e]
      by_cases hlt : x < 256
      · rw [decide_eq_false (by omega), if_pos ⟨h2, hlt⟩]
        simp only [wharfageref01_Put.j0]
        rw [if_neg (by simp)]
        rw [show wrap64 (1 - 1) = 0 by decide +kernel]
        exact rput_loop1 x
      · rw [decide_eq_true (by omega), if_neg (fun hh => hlt hh.2)]
        simp only [wharfageref01_Put.j0]
        rfl
    · have e : shl .u64 1 (IntKind.u64.wrap (wrap64 (8 * 2))) = 65536 := by decide +kernel
      rw [if_pos (by omega), if_pos (by decide +kernel), e]
      by_cases hlt : x < 65536
      · rw [decide_eq_false (by omega), if_pos ⟨h2, hlt⟩]
        simp only [wharfageref01_Put.j0]
        rw [if_neg (by simp)]
        rw [show wrap64 (2 - 1) = 1 by decide +kernel]
        exact rput_loop2 x
      · rw [decide_eq_true (by omega), if_neg (fun hh => hlt hh.2)]
        simp only [wharfageref01_Put.j0]
        rfl
    · have e : shl .u64 1 (IntKind.u64.wrap (wrap64 (8 * 4))) = 4294967296 := by decide +kernel
      rw [if_pos (by omega), if_pos (by decide +kernel), e]
      by_cases hlt : x < 4294967296
      · rw [decide_eq_false (by omega), if_pos ⟨h2, hlt⟩]
        simp only [wharfageref01_Put.j0]
        rw [if_neg (by simp)]
        rw [show wrap64 (4 - 1) = 3 by decide +kernel]
        exact rput_loop4 x
      · rw [decide_eq_true (by omega), if_neg (fun hh => hlt hh.2)]
        simp only [wharfageref01_Put.j0]
        rfl
    · rw [if_neg (by omega), if_pos ⟨h2, by show x < 18446744073709551616; omega⟩]
      simp only [wharfageref01_Put.j0]
      rw [if_neg (by simp)]
      rw [show wrap64 (8 - 1) = 7 by decide +kernel]
      exact rput_loop8 x
  · rw [decide_eq_false h, if_neg (by simp), if_neg (fun hh => h hh.1)]
    simp only [wharfageref01_Put.j0]
    rfl

/-! ### Numbers of bytes -/
/-- The number of bytes, the highest first. -/
def be (l : List Int) : Int := l.foldl (fun n c => 256 * n + c) 0
theorem be_snoc (l : List Int) (c : Int) : be (l ++ [c]) = 256 * be l + c := by simp [be]
theorem be_bs (x : Int) (s : Nat) (hs : IsSz s) (h0 : 0 ≤ x) (hx : x < top s) : be (bs x s) = x := by
  have h : s = 1 ∨ s = 2 ∨ s = 4 ∨ s = 8 := by unfold IsSz at hs; omega
  rcases h with rfl | rfl | rfl | rfl
  all_goals
    simp only [top] at hx
    simp only [be, bs, List.foldl_cons, List.foldl_nil]
    omega
theorem bs_length (x : Int) (s : Nat) (hs : IsSz s) : (bs x s).length = s := by
  have h : s = 1 ∨ s = 2 ∨ s = 4 ∨ s = 8 := by unfold IsSz at hs; omega
  rcases h with rfl | rfl | rfl | rfl <;> rfl
theorem bs_bytes (x : Int) (s : Nat) : ∀ c ∈ bs x s, 0 ≤ c ∧ c < 256 := by
  intro c hc
  unfold bs at hc
  split at hc <;> simp at hc <;> omega
theorem be_foldl (l : List Int) (n : Int) : l.foldl (fun n c => 256 * n + c) n = n * 256 ^ l.length + be l := by
  induction l generalizing n with
  | nil => simp [be]
  | cons c l ih =>
    simp only [be, List.foldl_cons, List.length_cons]
    rw [ih, ih, Int.pow_succ]
    grind
theorem be_cons (c : Int) (l : List Int) : be (c :: l) = c * 256 ^ l.length + be l := by
  have := be_foldl l (256 * 0 + c)
  simpa [be] using this
theorem be_range (l : List Int) (h : ∀ c ∈ l, 0 ≤ c ∧ c < 256) : 0 ≤ be l ∧ be l < 256 ^ l.length := by
  induction l with
  | nil => simp [be]
  | cons c l ih =>
    have h1 := ih (fun x hx => h x (by simp [hx]))
    have h2 := h c (by simp)
    rw [be_cons, List.length_cons, Int.pow_succ]
    have hp : (0 : Int) < 256 ^ l.length := Int.pow_pos (by omega)
    generalize (256 : Int) ^ l.length = p at h1 hp ⊢
    constructor
    · have : 0 ≤ c * p := Int.mul_nonneg h2.1 (by omega)
      omega
    · have : c * p ≤ 255 * p := Int.mul_le_mul_of_nonneg_right (by omega) (by omega)
      omega

/-! ### What Get answers -/
def getR (l : List Int) (a n : Int) : Int × Int :=
  if ¬ IsSz n ∨ a < 0 ∨ (l.length : Int) < a then (0, 2) else if (l.length : Int) - a < n then (0, 4) else (be ((l.drop a.toNat).take n.toNat), 0)
theorem rget_loop (l : List Int) (hl : l.length ≤ 140737488355328) (h8 : ∀ c ∈ l, 0 ≤ c ∧ c < 256) (a s : Nat) (hs : s ≤ 8) (hle : a + s ≤ l.length) (d : Nat) : ∀ (k i : Nat), a ≤ i → i + d = a + s → d < k →
    wharfageref01_Get.l0 k l a s (be ((l.drop a).take (i - a))) i = some (be ((l.drop a).take s), 0) := by
  induction d with
  | zero =>
    intro k i hi hd hk
    obtain ⟨k, rfl⟩ : ∃ m, k = m + 1 := ⟨k - 1, by omega⟩
    have e : wrap64 ((a : Int) + (s : Int)) = ((a + s : Nat) : Int) := by unfold wrap64; omega
    simp only [wharfageref01_Get.l0]
    rw [e, if_neg (by omega), show i - a = s by omega]
  | succ d ih =>
    intro k i hi hd hk
    obtain ⟨k, rfl⟩ : ∃ m, k = m + 1 := ⟨k - 1, by omega⟩
    have e : wrap64 ((a : Int) + (s : Int)) = ((a + s : Nat) : Int) := by unfold wrap64; omega
    have hlt : i < l.length := by omega
    have hrd : rd l (i : Int) = l[i] := by simp [rd, List.getD_eq_getElem?_getD, List.getElem?_eq_getElem hlt]
    have e2 : wrap64 ((i : Int) + 1) = ((i + 1 : Nat) : Int) := by unfold wrap64; omega
    have hb := be_range ((l.drop a).take (i - a)) (fun c hc => h8 c (List.mem_of_mem_drop (List.mem_of_mem_take hc)))
    have hlen : ((l.drop a).take (i - a)).length = i - a := by simp; omega
    rw [hlen] at hb
    have hc := h8 l[i] (List.getElem_mem hlt)
    have hpow : (256 : Int) ^ (i - a) ≤ 72057594037927936 := by
      have h7 : 256 ^ (i - a) ≤ 256 ^ 7 := Nat.pow_le_pow_right (by omega) (by omega)
      have h8 : ((256 ^ (i - a) : Nat) : Int) = (256 : Int) ^ (i - a) := by simp
      omega
    have hsnoc : (l.drop a).take (i + 1 - a) = (l.drop a).take (i - a) ++ [l[i]] := by
      rw [show i + 1 - a = (i - a) + 1 by omega, List.take_succ_eq_append_getElem (by simp; omega)]
      congr 2
      simp [show a + (i - a) = i by omega]
    have hval : IntKind.u64.wrap (IntKind.u64.wrap (256 * be ((l.drop a).take (i - a))) + IntKind.u64.wrap l[i]) = be ((l.drop a).take (i + 1 - a)) := by
      rw [hsnoc, be_snoc, IntKind.wrap_u64, IntKind.wrap_u64, IntKind.wrap_u64]
      generalize be ((l.drop a).take (i - a)) = v at hb ⊢
      generalize (256 : Int) ^ (i - a) = p at hb hpow
      omega
    simp only [wharfageref01_Get.l0]
    rw [e, if_pos (by omega), if_pos (by omega), if_pos (by omega), hrd, e2, hval]
    exact ih k (i + 1) (by omega) (by omega) (by omega)
theorem ref_get_eq (l : List Int) (a n : Int) (hl : l.length ≤ 140737488355328) (h8 : ∀ c ∈ l, 0 ≤ c ∧ c < 256) (ha : I64 a) (hn : I64 n) : wharfageref01_Get.f 12 l a n = some (getR l a n) := by
  unfold I64 at ha hn
  unfold wharfageref01_Get.f getR
  rw [size_eq, Option.bind_some]
  have early : wharfageref01_Get.j0 12 l a n true = some (0, 2) := by simp only [wharfageref01_Get.j0]; rfl
  by_cases h : IsSz n
  · rw [decide_eq_true h, if_pos rfl]
    by_cases h0 : a < 0
    · rw [if_pos h0, if_pos (Or.inr (Or.inl h0)), early]
    rw [if_neg h0]
    by_cases h1 : (l.length : Int) < a
    · rw [decide_eq_true (by omega), if_pos (Or.inr (Or.inr h1)), early]
    rw [decide_eq_false (by omega), if_neg (by simp [h, h0, h1])]
    simp only [wharfageref01_Get.j0]
    have e : wrap64 ((l.length : Int) - a) = (l.length : Int) - a := by unfold wrap64; omega
    rw [if_neg (by simp), e]
    by_cases h2 : (l.length : Int) - a < n
    · rw [if_pos h2, if_pos h2]
    rw [if_neg h2, if_neg h2]
    obtain ⟨A, rfl⟩ := Int.eq_ofNat_of_zero_le (show 0 ≤ a by omega)
    have hn0 : 0 ≤ n ∧ n ≤ 8 := by unfold IsSz at h; omega
    obtain ⟨s, rfl⟩ := Int.eq_ofNat_of_zero_le hn0.1
    have := rget_loop l hl h8 A s (by omega) (by omega) s 11 A (Nat.le_refl _) rfl (by omega)
    simpa [be] using this
  · rw [decide_eq_false h, if_neg (by simp), if_pos (Or.inl h), early]

/-! ### Padding, bytes of 0, sums -/
theorem i64_and3 (n : Int) : Go.bits .and .i64 n 3 = n % 4 := by
  have h3 : (BitVec.ofInt 64 3).toNat = 2 ^ 2 - 1 := by decide
  have key : (BitVec.ofInt 64 n &&& BitVec.ofInt 64 3).toNat = (n % ((2 ^ 64 : Nat) : Int)).toNat % 2 ^ 2 := by
    rw [BitVec.toNat_and, BitVec.toNat_ofInt, h3, Nat.and_two_pow_sub_one_eq_mod]
  show IntKind.i64.wrap ((BitVec.ofInt 64 n &&& BitVec.ofInt 64 3).toNat : Nat) = n % 4
  rw [key, IntKind.wrap_i64]
  omega
def padR (n : Int) : Int := if n < 0 then 0 else (-n) % 4
theorem num_pad_eq (n : Int) (hn : I64 n) : num_Pad.f n = some (padR n) := by
  unfold num_Pad.f padR I64 at *
  have hm : ∀ m : Int, 0 ≤ m → m ≤ 9223372036854775807 → Go.bits .and .i64 (wrap64 (-m)) 3 = (-m) % 4 := by
    intro m h0 h1
    have e : wrap64 (-m) = -m := by unfold wrap64; omega
    rw [e, i64_and3]
  unfold mx
  by_cases h : n < 0
  · rw [if_pos h, if_pos h, hm 0 (by omega) (by omega)]
    rfl
  · rw [if_neg h, if_neg h, hm n (by omega) (by omega)]
theorem ref_pad_eq (n : Int) (hn : I64 n) : wharfageref01_Pad.f n = some (padR n) := by
  unfold wharfageref01_Pad.f padR I64 at *
  by_cases h : n < 0
  · rw [if_pos h, if_pos h]
  rw [if_neg h, if_neg h, Int.tmod_eq_emod_of_nonneg (by omega)]
  by_cases h2 : n % 4 = 0
  · rw [if_pos h2]
    congr 1
    omega
  · rw [if_neg h2]
    congr 1
    unfold wrap64
    omega
def addR (a b : Int) : Int × Bool := if a + b < 18446744073709551616 then (a + b, true) else (0, false)
theorem ref_add_eq (a b : Int) (ha : U64 a) (hb : U64 b) : wharfageref01_Add.f a b = some (addR a b) := by
  unfold wharfageref01_Add.f addR U64 at *
  rw [IntKind.wrap_u64, IntKind.wrap_u64]
  by_cases h : a + b < 18446744073709551616
  · rw [if_neg (by omega), if_pos h]
    congr 2
    omega
  · rw [if_pos (by omega), if_neg h]
theorem rzero_loop (l : List Int) (hl : l.length ≤ 140737488355328) (a s : Nat) (hle : a + s ≤ l.length) (d : Nat) : ∀ (k i : Nat), a ≤ i → i + d = a + s → d < k →
    wharfageref01_Zero.l0 k l a s i = some (if 0 ≤ fnz ((l.take (a + s)).drop i) then 5 else 0) := by
  have e : wrap64 ((a : Int) + (s : Int)) = ((a + s : Nat) : Int) := by unfold wrap64; omega
  induction d with
  | zero =>
    intro k i hi hd hk
    obtain ⟨k, rfl⟩ : ∃ m, k = m + 1 := ⟨k - 1, by omega⟩
    simp only [wharfageref01_Zero.l0]
    rw [e, if_neg (by omega), List.drop_eq_nil_of_le (by simp; omega)]
    rfl
  | succ d ih =>
    intro k i hi hd hk
    obtain ⟨k, rfl⟩ : ∃ m, k = m + 1 := ⟨k - 1, by omega⟩
    have hlt : i < l.length := by omega
    have hrd : rd l (i : Int) = l[i] := by simp [rd, List.getD_eq_getElem?_getD, List.getElem?_eq_getElem hlt]
    have e2 : wrap64 ((i : Int) + 1) = ((i + 1 : Nat) : Int) := by unfold wrap64; omega
    have hdrop : (l.take (a + s)).drop i = l[i] :: (l.take (a + s)).drop (i + 1) := by
      rw [List.drop_eq_getElem_cons (by simp; omega)]
      simp
    simp only [wharfageref01_Zero.l0]
    rw [e, if_pos (by omega), if_pos (by omega), if_pos (by omega), hrd, e2, hdrop]
    by_cases h0 : l[i] = 0
    · rw [if_pos h0, ih k (i + 1) (by omega) (by omega) (by omega), h0]
      have : (0 ≤ fnz (0 :: (l.take (a + s)).drop (i + 1))) ↔ (0 ≤ fnz ((l.take (a + s)).drop (i + 1))) := by
        unfold fnz
        simp only [List.all_cons, BEq.rfl, Bool.true_and]
        by_cases hz : ((l.take (a + s)).drop (i + 1)).all (· == 0) = true
        · rw [if_pos hz, if_pos hz]
        · rw [if_neg hz, if_neg hz]
          omega
      simp only [this]
    · rw [if_neg h0, if_pos]
      unfold fnz
      rw [if_neg (by simp [h0])]
      omega
theorem ref_zero_eq (l : List Int) (a n : Int) (hl : l.length ≤ 140737488355328) (ha : I64 a) (hn : I64 n) : wharfageref01_Zero.f (l.length + 2) l a n = some (num_Zero.f l a n) := by
  unfold I64 at ha hn
  unfold wharfageref01_Zero.f num_Zero.f
  have early : wharfageref01_Zero.j0 (l.length + 2) l a n true = some 2 := by simp only [wharfageref01_Zero.j0]; rfl
  by_cases h0 : a < 0
  · rw [if_pos h0, if_pos (Or.inl h0), early]
  rw [if_neg h0]
  by_cases h1 : (l.length : Int) < a
  · rw [if_pos (by omega), if_pos (Or.inr (Or.inl h1)), early]
  rw [if_neg (by omega)]
  by_cases h2 : n < 0
  · rw [decide_eq_true h2, if_pos (Or.inr (Or.inr h2)), early]
  rw [decide_eq_false h2, if_neg (by simp [h0, h1, h2])]
  simp only [wharfageref01_Zero.j0]
  have e : wrap64 ((l.length : Int) - a) = (l.length : Int) - a := by unfold wrap64; omega
  rw [if_neg (by simp), e]
  by_cases h3 : (l.length : Int) - a < n
  · rw [if_pos h3, if_pos h3]
  rw [if_neg h3, if_neg h3]
  obtain ⟨A, rfl⟩ := Int.eq_ofNat_of_zero_le (show 0 ≤ a by omega)
  obtain ⟨s, rfl⟩ := Int.eq_ofNat_of_zero_le (show 0 ≤ n by omega)
  rw [rzero_loop l hl A s (by omega) s (l.length + 1) A (Nat.le_refl _) rfl (by omega), show ((A : Int) + (s : Int)).toNat = A + s by omega, Int.toNat_natCast]
end Go.Proofs.Ytjenbffnpekbjaa.F
