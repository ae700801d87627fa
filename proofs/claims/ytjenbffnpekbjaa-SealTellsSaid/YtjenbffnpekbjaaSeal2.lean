/- seal.Greatest, and seal.sealed at a known answer. -/
import Derived.Test.YtjenbffnpekbjaaSeal1
import Derived.WalkSpells
import Derived.Test.YtjenbffnpekbjaaFn3
namespace Go.Proofs.Ytjenbffnpekbjaa.F
open Go.RowKit Go.Proofs.YtjenbffnpekbjaaW.PrintWords Go.Proofs.YtjenbffnpekbjaaW.PrintLast Go.Proofs.YtjenbffnpekbjaaW.PrintMore
set_option linter.unusedVariables false
attribute [local go_sem] max2_int min2_int max_two min_two
section
variable {P : Program} {ops : Array Oper} {rest : List Oper} {o : Oper} {a : Act} {Q : Exit → Act → World → Prop} {W : World}
theorem gate_load47 {x : Operand} (_ho : o.op = .load 47 x) (h : wpList P ops Q (o :: rest) a W) : wpList P ops Q (o :: rest) a W := h
theorem gate_store47 {x y : Operand} (_ho : o.op = .store 47 x y) (h : wpList P ops Q (o :: rest) a W) : wpList P ops Q (o :: rest) a W := h
end
/-- The greatest of the first q tags. -/
def greatL (l : List Int) : Nat → Int
  | 0 => 0
  | q + 1 => max (greatL l q) (tagL l q)
set_option maxHeartbeats 1000000 in
theorem greatest_calls (l : List Int) (hl : l.length = 64) (h8 : Bytes l) (w : World) :
    Calls Try.prog 43 #[.agg (cellsOf l)] w fun e w' => e = .returned (.int .u32 (greatL l 4)) ∧ Below w.heap.size w w' := by
  have S := Aside0.mk (fun (W : World) (q : Nat) (hq : q < 4) => said_calls l q hl h8 hq W)
  have HL := Aside0.mk hl
  clear hl h8
  have HB := Aside0.mk (HasB.new w l _ rfl)
  have HW := Aside0.mk (below_alloc (Below.refl w.heap.size w) (.cells (cellsOf l) 47 (0, 0)))
  go_enter Try.func43, Try.ntmps43
  go_wp2
  go_loopg [2, 4] 4 (fun kq v2 v4 w' => ∃ q : Nat, Aside0 (q + kq = 4) ∧ v4 = .int .i64 q ∧ v2 = .int .u32 (greatL l q) ∧ Aside0 (HasB w' w.heap.size l) ∧ Aside0 (Below w.heap.size w w'))
  case atStart => exact ⟨0, ⟨rfl⟩, rfl, rfl, HB, HW⟩
  case round =>
    clear HB HW
    obtain ⟨q, HQ, rfl, rfl, HB, HW⟩ := hrel
    cases gk with
    | zero =>
      have e := HQ.out
      obtain rfl : q = 4 := by omega
      go_wp2
      go_ret
      exact ⟨rfl, HW.out⟩
    | succ k1 =>
      have c : (q : Int) < 4 := by have := HQ.out; omega
      have HQ4 := Aside0.mk (show q < 4 by have := HQ.out; omega)
      go_wp2_with (first
        | ((with_reducible refine gate_load47 rfl ?_); refine loadB rfl (.tmp 1) rfl w.heap.size rfl l HL.out HB.out ?_)
        | (go_at_call 59; ((with_reducible refine (S.out _ q HQ4.out).mono ?_); rintro e w1 ⟨rfl, hb⟩)))
      all_goals
        go_roundg k1
        case measure => omega
        case rel => exact ⟨q + 1, ⟨by have := HQ.out; omega⟩, by go_num, (by simp only [greatL]; congr 1; omega), ⟨HB.out.below (HW.out.size |> fun _ => hb)⟩, ⟨below_step HW.out hb⟩⟩
end Go.Proofs.Ytjenbffnpekbjaa.F
