/- SumOne, the plain law: of bytes of one length of which one differs the sums differ. -/
import Derived.Test.YtjenbffnpekbjaaPureSum
import Derived.Test.YtjenbffnpekbjaaWalkOne
namespace Go.Proofs.Ytjenbffnpekbjaa.F
open Go.RowKit Go.Proofs.YtjenbffnpekbjaaW.PrintWords Go.Proofs.YtjenbffnpekbjaaW.PrintLast Go.Proofs.YtjenbffnpekbjaaW.PrintMore

theorem xor8 {a b : Int} (ha : U8 a) (hb : U8 b) : U8 (Go.bits .xor .u8 a b) ∧ (Go.bits .xor .u8 a b = a ↔ b = 0) := by
  obtain ⟨x, rfl⟩ := Int.eq_ofNat_of_zero_le ha.1
  obtain ⟨y, rfl⟩ := Int.eq_ofNat_of_zero_le hb.1
  have hx := ha.2
  have hy := hb.2
  rw [u8_xor_nat x y (by omega) (by omega)]
  have h1 : x ^^^ y < 2 ^ 8 := Nat.xor_lt_two_pow (by omega) (by omega)
  refine ⟨by unfold U8; omega, fun h => ?_, fun h => ?_⟩
  · have h2 : x ^^^ y = x ^^^ 0 := by rw [Nat.xor_zero]; omega
    have := xor_inj x y 0 h2
    omega
  · have : y = 0 := by omega
    subst this
    simp

theorem fold_one (s : Int) (l : List Int) (hs : U32 s) (hc : ∀ x ∈ l, U8 x) (i : Nat) (hi : i < l.length) (c : Int) (c8 : U8 c) : fold s (l.set i c) = fold s l ↔ c = l[i] := by
  have e1 : l.set i c = l.take i ++ c :: l.drop (i + 1) := List.set_eq_take_append_cons_drop .. |>.trans (by rw [if_pos hi])
  have e2 : fold s l = fold s (l.take i ++ l[i] :: l.drop (i + 1)) := by rw [← List.drop_eq_getElem_cons hi, List.take_append_drop]
  rw [e1, e2, fold_append, fold_append]
  constructor
  · intro h
    have h' : fold (tk (fold s (l.take i)) c) (l.drop (i + 1)) = fold (tk (fold s (l.take i)) l[i]) (l.drop (i + 1)) := h
    have h2 := fold_inj (tk_range _ _) (tk_range _ _) (fun x hx => hc x (List.mem_of_mem_drop hx)) h'
    exact tk_inj_c (fold_range hs) c8 (hc _ (List.getElem_mem hi)) h2
  · intro h
    rw [h]

theorem pureOne : wharfagelaw03_SumOne.Pure := by
  intro l at_ by_ _ _ wl _ wb
  have bb := bounds_u8 wb
  have hb : U8 by_ := by unfold U8; omega
  have hl := u8_of_wf wl
  refine ⟨l.length + 3, ?_⟩
  have early : wharfagelaw03_SumOne.j0 (l.length + 3) l at_ by_ true = some true := by
    simp only [wharfagelaw03_SumOne.j0]
    rw [if_pos trivial]
    rfl
  unfold wharfagelaw03_SumOne.f
  by_cases h0 : at_ < 0
  · rw [if_pos h0, early]
  rw [if_neg h0]
  by_cases h1 : at_ ≥ (l.length : Int)
  · rw [if_pos h1, early]
  rw [if_neg h1]
  by_cases h2 : (l.length : Int) > 2000
  · rw [decide_eq_true h2, early]
  rw [decide_eq_false h2]
  simp only [wharfagelaw03_SumOne.j0]
  obtain ⟨i, rfl⟩ := Int.eq_ofNat_of_zero_le (show 0 ≤ at_ by omega)
  have hi : i < l.length := by omega
  have hcopy : wharfageref00_Copy.f l = some l := by
    simp only [wharfageref00_Copy.f, List.nil_append, List.length_nil, Nat.zero_add]
    rw [if_pos (by omega)]
  rw [if_neg (by simp), hcopy, Option.bind_some, if_pos (by omega), if_pos (by omega)]
  have hset : (l.set (Int.toNat (i : Int)) (Go.bits .xor .u8 (rd l (i : Int)) by_)).length = l.length := by simp
  rw [of_eq _ _ (by omega) (by omega), Option.bind_some, of_eq _ _ (by omega) (by omega), Option.bind_some, rd_lt l i hi, Int.toNat_natCast]
  have hx := xor8 (hl _ (List.getElem_mem hi)) hb
  have hf := (fold_one 2166136261 l u32_begin hl i hi _ hx.1).trans hx.2
  have e : ((fold 2166136261 (l.set i (Go.bits .xor .u8 l[i] by_)) == fold 2166136261 l) == (by_ == 0)) = true := by
    rw [beq_iff_eq, Bool.eq_iff_iff, beq_iff_eq, beq_iff_eq]
    exact hf
  rw [if_pos e]
  rfl

end Go.Proofs.Ytjenbffnpekbjaa.F
