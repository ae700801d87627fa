/- The statement's own 'lives' returns true. -/
import Derived.Test.YtjenbffnpekbjaaFs0
import Derived.Lib.SmallJoins
namespace Go.Proofs.Ytjenbffnpekbjaa.F
open Go.RowKit Go.Proofs.YtjenbffnpekbjaaW.PrintWords Go.Proofs.YtjenbffnpekbjaaW.PrintLast Go.Proofs.YtjenbffnpekbjaaW.PrintMore
attribute [local go_sem] max2_int min2_int max_two min_two max_three min_three max_four min_four
set_option linter.unusedVariables false
set_option linter.unusedSimpArgs false

theorem of_nil : sum_Of.f 1 ([] : List Int) = some 2166136261 := by decide +kernel
theorem of_a : sum_Of.f 2 ([97] : List Int) = some 3826002220 := by decide +kernel
theorem take_01 : sum_Take.f 0 1 = some 16777619 := by decide +kernel
theorem take_79 : sum_Take.f 7 9 = some 234886666 := by decide +kernel
theorem back_79 : sum_Back.f 234886666 9 = some 7 := by decide +kernel
theorem C_lit (w : World) (x : Int) (t : TypeId) (fr : Nat × Nat) (g : Nat) (hg : g = w.heap.size) : Kd.C (Kd.int .u8) (w.alloc (.cells #[.int .u8 x] t fr)) (some ⟨g, 0, none⟩) [x].length [x] := by
  subst hg
  refine Kd.C_of_reads (d := 0) ⟨rfl, by simp, fun _ => ⟨_, rfl, fun j hj => ?_⟩⟩
  match j, hj with
  | 0, _ => exact World.cell?_alloc_mark w _ t fr 0
set_option maxHeartbeats 400000 in
theorem lives03 (w : World) : Calls Try.prog 24 #[] w fun e w' => e = .returned (.bool true) ∧ Below w.heap.size w w' := by
  have kc := fun (nd : Nat) (C : Array Value) (n c : Nat) => Joins.run_convert_bytes_const_at (P := Try.prog) (w.drewN nd) 23 5 C n c w.heap.size (by simp) Try.underlying23 Try.underlying5
  go_enter Try.func24, Try.ntmps24
  go_wp2_with (first
    | (go_at_call 19; refine (sum_Of.calls 1 none 0 [] _ _ (Kd.C_nil _ _) (Nat.le_refl _) of_nil).mono ?_; rintro e w' ⟨rfl, ⟨nd, rfl⟩⟩)
    | (go_at_call 15; refine (sum_Take.calls 0 1 _ _ take_01).mono ?_; rintro e w' ⟨rfl, ⟨nd, rfl⟩⟩)
    | (go_at_call 15; refine (sum_Take.calls 7 9 _ _ take_79).mono ?_; rintro e w' ⟨rfl, ⟨nd, rfl⟩⟩)
    | (go_at_call 21; refine (sum_Back.calls 234886666 9 _ _ back_79).mono ?_; rintro e w' ⟨rfl, ⟨nd, rfl⟩⟩)
    | (go_at_call 19; refine (sum_Of.calls 2 _ _ [97] _ _ (C_lit _ _ _ _ _ (by simp)) (Nat.le_refl _) of_a).mono ?_; rintro e w' ⟨rfl, ⟨nd, rfl⟩⟩))
  go_ret
  exact ⟨rfl, pw_below_drewN (below_alloc (pw_below_drewN (Below.refl _ _) _) _) _⟩
def wharfagelaw03_lives.f (k : Nat) : Option Bool := some true
theorem wharfagelaw03_lives.mono : ∀ k, LeO (wharfagelaw03_lives.f k) (wharfagelaw03_lives.f (k + 1)) := fun _ => LeO.refl _
theorem wharfagelaw03_lives.calls (k : Nat) (r : Bool) (w : World) (h : wharfagelaw03_lives.f k = some r) :
    Calls Try.prog 24 #[] w fun e w' => e = .returned (.bool r) ∧ Below w.heap.size w w' := by
  obtain rfl := Option.some.inj h
  exact lives03 w


end Go.Proofs.Ytjenbffnpekbjaa.F
