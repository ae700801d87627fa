/- NumPads: with its padding any length is a multiple of four, with none less. -/
import Derived.Test.YtjenbffnpekbjaaLives01
namespace Go.Proofs.Ytjenbffnpekbjaa.F
open Go.RowKit Go.Proofs.YtjenbffnpekbjaaW.PrintWords Go.Proofs.YtjenbffnpekbjaaW.PrintLast Go.Proofs.YtjenbffnpekbjaaW.PrintMore
set_option linter.unusedVariables false
set_option maxHeartbeats 1000000 in
theorem pads_walk (n : Int) (w : World) (hn : (Lit.int .i64 n).wf = true) :
    Calls Try.prog 10 #[.int .i64 n] w fun e w' => e = .returned (.bool true) ∧ Below w.heap.size w w' := by
  have hb := i64_of_wf hn
  clear hn
  unfold I64 at hb
  obtain ⟨hn1, hn2⟩ := hb
  obtain ⟨r, e⟩ : ∃ r, n.tmod 1099511627776 = r := ⟨_, rfl⟩
  have hr1 : -1099511627776 < r := by rw [← e]; have := Int.lt_tmod_of_pos n (show (0 : Int) < 1099511627776 by omega); omega
  have hr2 : r < 1099511627776 := by rw [← e]; exact Int.tmod_lt_of_pos n (by omega)
  by_cases h : r < 0
  · have P := Aside0.mk (pad_at r 0 · (by unfold I64; omega) (by unfold padR; rw [if_pos h]))
    go_enter Try.func10, Try.ntmps10
    go_wp2_with (first
      | (go_at_call 33; (with_reducible refine (P.out _).mono ?_); rintro e w1 ⟨rfl, hb⟩; have HB := Aside0.mk hb; clear hb)
      | (go_at_call 37; (with_reducible refine (lives01 _).mono ?_); rintro e w2 ⟨rfl, hb⟩; have HB2 := Aside0.mk (below_step HB.out hb); clear hb HB))
    go_ret
    exact ⟨rfl, HB2.out⟩
  · obtain ⟨p, hp⟩ : ∃ p, padR r = p := ⟨_, rfl⟩
    have P := Aside0.mk (pad_at r p · (by unfold I64; omega) hp)
    unfold padR at hp
    rw [if_neg h] at hp
    have hp1 : 0 ≤ p := by omega
    have hp2 : p ≤ 3 := by omega
    have hp3 : (r + p) % 4 = 0 := by omega
    clear hp
    go_enter Try.func10, Try.ntmps10
    go_wp2_with (first
      | (go_at_call 33; (with_reducible refine (P.out _).mono ?_); rintro e w1 ⟨rfl, hb⟩; have HB := Aside0.mk hb; clear hb)
      | (go_at_call 37; (with_reducible refine (lives01 _).mono ?_); rintro e w2 ⟨rfl, hb⟩; have HB2 := Aside0.mk (below_step HB.out hb); clear hb HB))
    go_ret
    exact ⟨rfl, HB2.out⟩
end Go.Proofs.Ytjenbffnpekbjaa.F
