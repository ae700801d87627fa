/- SumPieces, the plain law, where both lists are short: of pieces it is More of the first one's sum. -/
import Derived.Test.YtjenbffnpekbjaaPureSum
import Derived.Test.YtjenbffnpekbjaaWalkPieces
namespace Go.Proofs.Ytjenbffnpekbjaa.F
open Go.RowKit Go.Proofs.YtjenbffnpekbjaaW.PrintWords Go.Proofs.YtjenbffnpekbjaaW.PrintLast Go.Proofs.YtjenbffnpekbjaaW.PrintMore

theorem purePieces (a b : List Int) (ha : a.length ≤ 1048576) (hb : b.length ≤ 1048576) : wharfagelaw03_SumPieces.f (a.length + b.length + 1) a b = some true := by
  unfold wharfagelaw03_SumPieces.f
  have h3 : (a ++ b).length = a.length + b.length := by simp
  rw [if_pos (by simp; omega), Option.bind_some, List.nil_append, if_pos (by omega), of_eq _ a (by omega) (by omega), Option.bind_some, more_eq _ _ b (by omega) (by omega), Option.bind_some, of_eq _ (a ++ b) (by omega) (by omega), Option.bind_some, if_pos (fold_append _ _ _).symm]
  rfl

theorem piecesWalk (a0 : Option Addr) (len0 cap0 : Nat) (z0 : List Int) (a1 : Option Addr) (len1 cap1 : Nat) (z1 : List Int) (w : World) (w0 : (a0 = none ∧ len0 = 0 ∧ cap0 = 0 ∧ z0 = []) ∨ ∃ x, a0 = some x ∧ len0 ≤ cap0 ∧ cap0 ≤ maxLen ∧ z0.length = cap0 ∧ (∀ i, i < z0.length → w.cell? (x.add i) = some (.int .u8 (z0.getD i 0))) ∧ ∀ n ∈ z0, (Lit.int .u8 n).wf = true) (_y0 : len0 * 1 ≤ 140737488351232) (w1 : (a1 = none ∧ len1 = 0 ∧ cap1 = 0 ∧ z1 = []) ∨ ∃ x, a1 = some x ∧ len1 ≤ cap1 ∧ cap1 ≤ maxLen ∧ z1.length = cap1 ∧ (∀ i, i < z1.length → w.cell? (x.add i) = some (.int .u8 (z1.getD i 0))) ∧ ∀ n ∈ z1, (Lit.int .u8 n).wf = true) (_y1 : len1 * 1 ≤ 140737488351232) (b0 : len0 ≤ 1048576) (b1 : len1 ≤ 1048576) :
    Calls Try.prog 4 #[.slice a0 len0 cap0, .slice a1 len1 cap1] w fun e w' => e = .returned (.bool true) ∧ Below w.heap.size w w' := by
  obtain ⟨l0, rfl, hr0, _, _, hc0⟩ := ReadsInt.ofRowC w0
  obtain ⟨l1, rfl, hr1, _, _, hc1⟩ := ReadsInt.ofRowC w1
  exact wharfagelaw03_SumPieces.calls _ _ _ l0 _ _ l1 true w (Kd.C_of_reads (d := (0 : Int)) (h1 := fun _ => rfl) hr0) hc0 (Kd.C_of_reads (d := (0 : Int)) (h1 := fun _ => rfl) hr1) hc1 (purePieces l0 l1 b0 b1)

end Go.Proofs.Ytjenbffnpekbjaa.F
