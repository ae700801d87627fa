/- SumBack, the plain law: what SumBack's printed function answers is true. -/
import Derived.Test.YtjenbffnpekbjaaPureSum
import Derived.Test.YtjenbffnpekbjaaWalkBack
namespace Go.Proofs.Ytjenbffnpekbjaa.F
open Go.RowKit Go.Proofs.YtjenbffnpekbjaaW.PrintWords Go.Proofs.YtjenbffnpekbjaaW.PrintLast Go.Proofs.YtjenbffnpekbjaaW.PrintMore

theorem back_loop (s : Int) (l : List Int) (hs : U32 s) (hl : l.length ≤ 2000) (hc : ∀ x ∈ l, U8 x) (n : Nat) : ∀ (k : Nat), n ≤ l.length → n < k →
    wharfagelaw03_SumBack.l0 k s l (fold s (l.take n)) ((n : Int) - 1) = some true := by
  induction n with
  | zero =>
    intro k _ hk
    obtain ⟨k, rfl⟩ : ∃ m, k = m + 1 := ⟨k - 1, by omega⟩
    simp only [wharfagelaw03_SumBack.l0]
    rw [if_neg (by omega), if_pos (by simp [fold])]
    rfl
  | succ n ih =>
    intro k hn hk
    obtain ⟨k, rfl⟩ : ∃ m, k = m + 1 := ⟨k - 1, by omega⟩
    have hlt : n < l.length := by omega
    simp only [wharfagelaw03_SumBack.l0]
    have e1 : ((n + 1 : Nat) : Int) - 1 = (n : Int) := by omega
    have e2 : wrap64 ((n : Int) - 1) = (n : Int) - 1 := by unfold wrap64; omega
    have e3 : bk (fold s (l.take (n + 1))) l[n] = fold s (l.take n) := by
      rw [List.take_succ_eq_append_getElem hlt, fold_append]
      exact bk_tk (fold_range hs) (hc _ (List.getElem_mem hlt))
    rw [e1, if_pos (by omega), if_pos (by omega), if_pos (by omega), rd_lt l n hlt, back_eq, Option.bind_some, e2, e3]
    exact ih k (by omega) (by omega)

theorem pureBack : wharfagelaw03_SumBack.Pure := by
  intro s c l ws wc _ _ wl
  have bs := bounds_u32 ws
  have bc := bounds_u8 wc
  have hs : U32 s := by unfold U32; omega
  have hc : U8 c := by unfold U8; omega
  have hl := u8_of_wf wl
  refine ⟨l.length + 3, ?_⟩
  unfold wharfagelaw03_SumBack.f
  by_cases h : (l.length : Int) > 2000
  · rw [if_pos h]
    simp only [wharfagelaw03_SumBack.j0]
    rw [if_pos trivial, if_pos h]
    rfl
  · rw [if_neg h, take_eq, Option.bind_some, back_eq, Option.bind_some, if_pos (bk_tk hs hc), back_eq, Option.bind_some, take_eq, Option.bind_some, tk_bk hs hc]
    simp only [wharfagelaw03_SumBack.j0]
    rw [if_neg (by simp), more_eq _ s l (by omega) (by omega), Option.bind_some]
    have e : wrap64 ((l.length : Int) - 1) = (l.length : Int) - 1 := by unfold wrap64; omega
    have := back_loop s l hs (by omega) hl l.length (l.length + 2) (by omega) (by omega)
    rwa [List.take_length, ← e] at this

end Go.Proofs.Ytjenbffnpekbjaa.F
