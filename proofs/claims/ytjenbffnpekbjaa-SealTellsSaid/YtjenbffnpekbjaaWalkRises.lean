/- NumRises: a greater number's bytes are greater, of one size. -/
import Derived.Test.YtjenbffnpekbjaaLives01
import Derived.WalkLawsBesides
namespace Go.Proofs.Ytjenbffnpekbjaa.F
open Go.RowKit Go.Proofs.YtjenbffnpekbjaaW.PrintWords Go.Proofs.YtjenbffnpekbjaaW.PrintLast Go.Proofs.YtjenbffnpekbjaaW.PrintMore
set_option linter.unusedVariables false
theorem byte_lt {a b : Int} (ha : 0 ≤ a ∧ a < 256) (hb : 0 ≤ b ∧ b < 256) : (UInt8.ofNat a.toNat < UInt8.ofNat b.toNat) ↔ a < b := by
  rw [UInt8.lt_iff_toNat_lt, UInt8.toNat_ofNat', UInt8.toNat_ofNat']
  omega
theorem byte_eq {a b : Int} (ha : 0 ≤ a ∧ a < 256) (hb : 0 ≤ b ∧ b < 256) : (UInt8.ofNat a.toNat = UInt8.ofNat b.toNat) ↔ a = b := by
  rw [← UInt8.toNat_inj, UInt8.toNat_ofNat', UInt8.toNat_ofNat']
  omega
theorem less_be (x : List Int) : ∀ (y : List Int), x.length = y.length → (∀ c ∈ x, 0 ≤ c ∧ c < 256) → (∀ c ∈ y, 0 ≤ c ∧ c < 256) →
    Op.bytesLess (x.map fun n => UInt8.ofNat n.toNat) (y.map fun n => UInt8.ofNat n.toNat) = decide (be x < be y) := by
  induction x with
  | nil =>
    intro y hl _ _
    obtain rfl : y = [] := List.eq_nil_of_length_eq_zero (by simpa using hl.symm)
    rfl
  | cons a x ih =>
    intro y hl hx hy
    cases y with
    | nil => simp at hl
    | cons b y =>
      have hlen : x.length = y.length := by simpa using hl
      have ha := hx a (by simp)
      have hb := hy b (by simp)
      have hrx := be_range x (fun c hc => hx c (by simp [hc]))
      have hry := be_range y (fun c hc => hy c (by simp [hc]))
      have := ih y hlen (fun c hc => hx c (by simp [hc])) (fun c hc => hy c (by simp [hc]))
      simp only [List.map_cons, Op.bytesLess, this, be_cons]
      rw [hlen] at hrx ⊢
      have hp : (0 : Int) < 256 ^ y.length := Int.pow_pos (by omega)
      generalize (256 : Int) ^ y.length = p at *
      rw [Bool.eq_iff_iff]
      simp only [Bool.or_eq_true, Bool.and_eq_true, decide_eq_true_eq, beq_iff_eq, byte_lt ha hb, byte_eq ha hb]
      constructor
      · rintro (h | ⟨h, h2⟩)
        · have : (a + 1) * p ≤ b * p := Int.mul_le_mul_of_nonneg_right (by omega) (by omega)
          rw [Int.add_mul] at this
          omega
        · subst h; omega
      · intro h
        rcases Int.lt_trichotomy a b with h1 | h1 | h1
        · exact Or.inl h1
        · subst h1; exact Or.inr ⟨rfl, by omega⟩
        · have : (b + 1) * p ≤ a * p := Int.mul_le_mul_of_nonneg_right (by omega) (by omega)
          rw [Int.add_mul] at this
          omega
theorem str_list (x : List Int) : (strOfNums x).toList = x.map fun n => UInt8.ofNat n.toNat := by
  rw [ByteArray.toList_eq, strOfNums_data]
theorem bs_inj (n m : Int) (s : Nat) (hs : IsSz s) (hn : 0 ≤ n ∧ n < top s) (hm : 0 ≤ m ∧ m < top s) (h : (strOfNums (bs n s)).toList = (strOfNums (bs m s)).toList) : n = m := by
  rw [str_list, str_list] at h
  have hl : (bs n s).length = (bs m s).length := by rw [bs_length n s hs, bs_length m s hs]
  have e : bs n s = bs m s := by
    apply List.ext_getElem hl
    intro i h1 h2
    have := congrArg (fun l => l[i]?) h
    simp only [List.getElem?_map, List.getElem?_eq_getElem h1, List.getElem?_eq_getElem h2, Option.map_some, Option.some.injEq] at this
    exact (byte_eq (bs_bytes n s _ (List.getElem_mem h1)) (bs_bytes m s _ (List.getElem_mem h2))).1 this
  rw [← be_bs n s hs hn.1 hn.2, e, be_bs m s hs hm.1 hm.2]
set_option maxHeartbeats 2000000 in
set_option maxRecDepth 100000 in
theorem rises_no (n m size e f : Int) (x y : List Int) (w : World) (un : U64 n) (um : U64 m) (is : I64 size) (hput : putR n size = (x, e)) (hput' : putR m size = (y, f)) (he : e = 0 ∧ f = 2 ∨ e = 2) :
    Calls Try.prog 9 #[.int .u64 n, .int .u64 m, .int .i64 size] w fun e w' => e = .returned (.bool true) ∧ Below w.heap.size w w' := by
  have F1 := Aside0.mk (put_at n size x e · un is hput)
  have F2 := Aside0.mk (put_at m size y f · um is hput')
  clear un um is hput hput'
  rcases he with ⟨rfl, rfl⟩ | rfl
  all_goals
    go_enter Try.func9, Try.ntmps9
    go_wp2_with (first
      | (go_at_call 26; ((with_reducible refine (F1.out _).mono ?_); rintro e w2 ⟨v2, rfl, ho, hb⟩; obtain ⟨A2, c2, e2⟩ := Kd.R_slice ho; subst e2; have HB2 := Aside0.mk hb; clear ho hb F1))
      | (go_at_call 26; ((with_reducible refine (F2.out _).mono ?_); rintro e w3 ⟨v3, rfl, ho, hb⟩; obtain ⟨A3, c3, e3⟩ := Kd.R_slice ho; subst e3; have HB3 := Aside0.mk (below_step HB2.out hb); clear ho hb HB2))
      | (go_at_call 37; ((with_reducible refine (lives01 _).mono ?_); rintro e w6 ⟨rfl, hb⟩; have HB6 := Aside0.mk (below_step HB3.out hb); clear hb HB3)))
    go_ret
    exact ⟨rfl, HB6.out⟩
set_option maxHeartbeats 2000000 in
set_option maxRecDepth 100000 in
theorem rises_yes (n m : Int) (s : Nat) (w : World) (un : U64 n) (um : U64 m) (hs : IsSz s) (hn : n < top s) (hm : m < top s) :
    Calls Try.prog 9 #[.int .u64 n, .int .u64 m, .int .i64 s] w fun e w' => e = .returned (.bool true) ∧ Below w.heap.size w w' := by
  have is : I64 s := by unfold I64; unfold IsSz at hs; omega
  have F1 := Aside0.mk (put_at n s (bs n s) 0 · un is (by unfold putR; rw [Int.toNat_natCast, if_pos ⟨hs, hn⟩]))
  have F2 := Aside0.mk (put_at m s (bs m s) 0 · um is (by unfold putR; rw [Int.toNat_natCast, if_pos ⟨hs, hm⟩]))
  have hl : (bs n s).length = (bs m s).length := by rw [bs_length n s hs, bs_length m s hs]
  have hL : Op.bytesLess (strOfNums (bs n s)).toList (strOfNums (bs m s)).toList = decide (n < m) := by
    rw [str_list, str_list, less_be _ _ hl (bs_bytes n s) (bs_bytes m s), be_bs n s hs un.1 hn, be_bs m s hs um.1 hm]
  have hE : ((strOfNums (bs n s)).toList == (strOfNums (bs m s)).toList) = (n == m) := by
    rw [Bool.eq_iff_iff, beq_iff_eq, beq_iff_eq]
    exact ⟨fun h => bs_inj n m s hs ⟨un.1, hn⟩ ⟨um.1, hm⟩ h, fun h => by rw [h]⟩
  clear un um hs hn hm is hl
  generalize bs n s = x at *
  generalize bs m s = y at *
  go_enter Try.func9, Try.ntmps9
  go_wp2_with (first
    | (go_at_call 26; ((with_reducible refine (F1.out _).mono ?_); rintro e w2 ⟨v2, rfl, ho, hb⟩; obtain ⟨A2, c2, e2⟩ := Kd.R_slice ho; subst e2; have HX2 := Aside0.mk (Kd.R_reads' ho).2.2; have HB2 := Aside0.mk hb; clear ho hb F1))
    | (go_at_call 26; ((with_reducible refine (F2.out _).mono ?_); rintro e w3 ⟨v3, rfl, ho, hb⟩; obtain ⟨A3, c3, e3⟩ := Kd.R_slice ho; subst e3; have hcv1 := Kd.C_string (P := Try.prog) (A := A2) (c := c2) Try.underlying23 Try.underlying5 Try.underlying9 (Kd.C_below HX2.out hb); have hcv2 := Kd.C_string (P := Try.prog) (A := A3) (c := c3) Try.underlying23 Try.underlying5 Try.underlying9 (Kd.R_reads' ho).2.2; have HB3 := Aside0.mk (below_step HB2.out hb); clear ho hb HX2 HB2 F2))
    | (go_at_call 37; ((with_reducible refine (lives01 _).mono ?_); rintro e w6 ⟨rfl, hb⟩; have HB6 := Aside0.mk (below_step HB3.out hb); clear hb HB3)))
  go_ret
  exact ⟨rfl, HB6.out⟩
theorem rises_walk (n m size : Int) (w : World) (wn : (Lit.int .u64 n).wf = true) (wm : (Lit.int .u64 m).wf = true) (ws : (Lit.int .i64 size).wf = true) :
    Calls Try.prog 9 #[.int .u64 n, .int .u64 m, .int .i64 size] w fun e w' => e = .returned (.bool true) ∧ Below w.heap.size w w' := by
  have un := u64_of_wf wn
  have um := u64_of_wf wm
  have is := i64_of_wf ws
  by_cases hn : IsSz size ∧ n < top size.toNat
  · by_cases hm : IsSz size ∧ m < top size.toNat
    · obtain ⟨s, rfl⟩ := Int.eq_ofNat_of_zero_le (show 0 ≤ size by have := hn.1; unfold IsSz at this; omega)
      rw [Int.toNat_natCast] at hn hm
      exact rises_yes n m s w un um hn.1 hn.2 hm.2
    · exact rises_no n m size 0 2 _ _ w un um is (by unfold putR; rw [if_pos hn]) (by unfold putR; rw [if_neg hm]) (Or.inl ⟨rfl, rfl⟩)
  · obtain ⟨⟨y, f⟩, hput'⟩ : ∃ r, putR m size = r := ⟨_, rfl⟩
    exact rises_no n m size 2 f _ y w un um is (by unfold putR; rw [if_neg hn]) hput' (Or.inr rfl)
end Go.Proofs.Ytjenbffnpekbjaa.F
