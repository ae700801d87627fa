/- Equality of blocks; what Get tells, by functions. -/
import Derived.Test.YtjenbffnpekbjaaSeal7
import Derived.ChangeKeysEq
namespace Go.Proofs.Ytjenbffnpekbjaa.F
open Go.RowKit Go.Proofs.YtjenbffnpekbjaaW.PrintWords Go.Proofs.YtjenbffnpekbjaaW.PrintLast Go.Proofs.YtjenbffnpekbjaaW.PrintMore
set_option linter.unusedVariables false
theorem plain5 : Try.prog.plainKey 5 = true := by kernel_rfl
theorem cells5 : Try.prog.cellsOf 5 = 1 := by kernel_rfl
theorem und47' : Try.prog.underlying 47 = some (.array 64 5) := by kernel_rfl
theorem items_run (w : World) (A B : List Int) : ∀ is : List Nat, (∀ j ∈ is, j < A.length ∧ j < B.length) → (Op.eqItems 9999 5 1 (cellsOf A) (cellsOf B) is).run Try.prog w = .ok (decide (∀ j ∈ is, A[j]? = B[j]?)) w := by
  intro is
  induction is with
  | nil => intro _; simp [Op.eqItems]
  | cons j is ih =>
    intro h
    obtain ⟨h1, h2⟩ := h j (by simp)
    have e := ih (fun k hk => h k (by simp [hk]))
    have pA := run_part_plain (P := Try.prog) w plain5 (cellsOf_at A j h1)
    have pB := run_part_plain (P := Try.prog) w plain5 (cellsOf_at B j h2)
    have q := run_equalIn_int (P := Try.prog) w 9998 5 .u8 .u8 A[j] B[j] (by kernel_rfl)
    simp only [Op.eqItems, Sem.run_bind, Nat.mul_one, pA, pB, q, Result.andThen_ok]
    by_cases hj : A[j] = B[j]
    · rw [if_neg (by simpa using hj), e]
      congr 1
      apply decide_eq_decide.2
      simp [h1, h2, hj]
    · rw [if_pos (by simpa using hj)]
      have : ¬ ∀ k ∈ j :: is, A[k]? = B[k]? := by
        intro hh
        have := hh j (by simp)
        rw [List.getElem?_eq_getElem h1, List.getElem?_eq_getElem h2] at this
        exact hj (Option.some.inj this)
      rw [decide_eq_false this]
      rfl
theorem eq47 (w : World) (A B : List Int) (hA : A.length = 64) (hB : B.length = 64) : (Op.equalIn 10000 47 (.agg (cellsOf A)) (.agg (cellsOf B))).run Try.prog w = .ok (decide (A = B)) w := by
  obtain ⟨i, hi, _⟩ := Option.map_eq_some_iff.1 info5
  rw [run_equalIn_array (P := Try.prog) w 9999 _ _ und47' hi, cells5, items_run w A B _ (by intro j hj; rw [List.mem_range] at hj; omega)]
  congr 1
  apply decide_eq_decide.2
  constructor
  · intro h
    apply List.ext_getElem?
    intro j
    by_cases hj : j < 64
    · exact h j (List.mem_range.2 hj)
    · rw [List.getElem?_eq_none (by omega), List.getElem?_eq_none (by omega)]
  · rintro rfl j _
    rfl
theorem run_eql47 (w : World) (A B : List Int) (hA : A.length = 64) (hB : B.length = 64) : (binOp .eql 47 (.agg (cellsOf A)) (.agg (cellsOf B))).run Try.prog w = .ok (.bool (decide (A = B))) w := by
  rw [run_eql_struct, eq47 w A B hA hB]
  rfl
theorem run_neq47 (w : World) (A B : List Int) (hA : A.length = 64) (hB : B.length = 64) : (binOp .neq 47 (.agg (cellsOf A)) (.agg (cellsOf B))).run Try.prog w = .ok (.bool (!decide (A = B))) w := by
  rw [run_neq_struct, eq47 w A B hA hB]
  rfl
instance (l : List Int) : Decidable (Whole l) := by unfold Whole; infer_instance
/-- Get's answer to a block: its error. -/
def getE (l : List Int) : Int := if Whole l then (if Right l then 0 else 6) else 5
theorem getE_ok (l : List Int) (h : getE l = 0) : Whole l ∧ Right l := by
  unfold getE at h
  by_cases h1 : Whole l
  · rw [if_pos h1] at h
    by_cases h2 : Right l
    · exact ⟨h1, h2⟩
    · rw [if_neg h2] at h; omega
  · rw [if_neg h1] at h; omega
theorem gete_calls (l : List Int) (hl : l.length = 64) (h8 : Bytes l) (w : World) :
    Calls Try.prog 40 #[.agg (cellsOf l)] w fun e w' => ∃ r v, e = .returned (.tuple #[.int .u32 r, v, .int .i64 (getE l)]) ∧ Below w.heap.size w w' := by
  refine (getx_calls l hl h8 w).mono ?_
  rintro e w' ⟨h, hb⟩
  rcases h with ⟨h1, h⟩ | ⟨h1, h2, h⟩ | ⟨h1, h2, g, cur, h, _⟩
  · exact ⟨_, _, by rw [h, getE, if_neg h1], hb⟩
  · exact ⟨_, _, by rw [h, getE, if_pos h1, if_neg h2], hb⟩
  · exact ⟨_, _, by rw [h, getE, if_pos h1, if_pos h2], hb⟩
/-- A whole mix of two blocks, each of one number, of unlike numbers, is the one or the other. -/
theorem mix_one (a b : List Int) (bits : Int) (ha : a.length = 64) (hb : b.length = 64) (n m : Int) (hn : ∀ q, q < 4 → tagL a q = n) (hm : ∀ q, q < 4 → tagL b q = m) (h : n ≠ m) (hw : Whole (mixL a b bits 4)) : mixL a b bits 4 = a ∨ mixL a b bits 4 = b := by
  have hl := mixL_length a b bits ha hb 4 (Nat.le_refl _)
  have ht := fun q hq => mix_tag a b bits ha hb q hq
  by_cases h0 : bitOn bits 0 = true
  · right
    apply eq_of_quarters _ _ hl hb
    intro q hq
    have h1 := hw.2 q hq
    rw [ht q hq, ht 0 (by decide), if_pos h0, hm 0 (by decide), hn q hq, hm q hq] at h1
    rw [mix_quarter4 a b bits ha hb q hq]
    by_cases hbq : bitOn bits q = true
    · rw [if_pos hbq]
    · rw [if_neg hbq] at h1; exact absurd h1 h
  · left
    apply eq_of_quarters _ _ hl ha
    intro q hq
    have h1 := hw.2 q hq
    rw [ht q hq, ht 0 (by decide), if_neg h0, hn 0 (by decide), hn q hq, hm q hq] at h1
    rw [mix_quarter4 a b bits ha hb q hq]
    by_cases hbq : bitOn bits q = true
    · rw [if_pos hbq] at h1; exact absurd h1.symm h
    · rw [if_neg hbq]
/-- A whole mix of a mix of two blocks with a third one: where those that count have unlike numbers, it is one of them. -/
theorem mix_two (a b c : List Int) (bits more : Int) (ha : a.length = 64) (hb : b.length = 64) (hc : c.length = 64) (n m k : Int) (hn : ∀ q, q < 4 → tagL a q = n) (hm : ∀ q, q < 4 → tagL b q = m) (hk : ∀ q, q < 4 → tagL c q = k)
    (h1 : n ≠ m) (h2 : n ≠ k) (h3 : m ≠ k ∨ m = 0) (hw : Whole (mixL (mixL a b bits 4) c more 4)) :
    mixL (mixL a b bits 4) c more 4 = a ∨ mixL (mixL a b bits 4) c more 4 = b ∨ mixL (mixL a b bits 4) c more 4 = c := by
  have hl1 := mixL_length a b bits ha hb 4 (Nat.le_refl _)
  have hl2 := mixL_length _ c more hl1 hc 4 (Nat.le_refl _)
  -- each quarter, and its number
  have hq : ∀ q, q < 4 → (quarterL (mixL (mixL a b bits 4) c more 4) q = quarterL a q ∧ tagL (mixL (mixL a b bits 4) c more 4) q = n) ∨ (quarterL (mixL (mixL a b bits 4) c more 4) q = quarterL b q ∧ tagL (mixL (mixL a b bits 4) c more 4) q = m) ∨ (quarterL (mixL (mixL a b bits 4) c more 4) q = quarterL c q ∧ tagL (mixL (mixL a b bits 4) c more 4) q = k) := by
    intro q hq
    rw [mix_quarter4 _ c more hl1 hc q hq, mix_tag _ c more hl1 hc q hq, mix_quarter4 a b bits ha hb q hq, mix_tag a b bits ha hb q hq, hn q hq, hm q hq, hk q hq]
    by_cases hc1 : bitOn more q = true
    · simp [hc1]
    · by_cases hb1 : bitOn bits q = true
      · simp [hc1, hb1]
      · simp [hc1, hb1]
  have hz := hw.1
  rcases hq 0 (by decide) with ⟨_, t0⟩ | ⟨_, t0⟩ | ⟨_, t0⟩
  · left
    apply eq_of_quarters _ _ hl2 ha
    intro q hq4
    have e := hw.2 q hq4
    rw [t0] at e
    rcases hq q hq4 with ⟨e1, t⟩ | ⟨e1, t⟩ | ⟨e1, t⟩
    · exact e1
    · rw [t] at e; exact absurd e.symm h1
    · rw [t] at e; exact absurd e.symm h2
  · right; left
    apply eq_of_quarters _ _ hl2 hb
    intro q hq4
    have e := hw.2 q hq4
    rw [t0] at e hz
    rcases hq q hq4 with ⟨e1, t⟩ | ⟨e1, t⟩ | ⟨e1, t⟩
    · rw [t] at e; exact absurd e h1
    · exact e1
    · rw [t] at e; rcases h3 with h3 | h3; exact absurd e.symm h3; exact absurd h3 hz
  · right; right
    apply eq_of_quarters _ _ hl2 hc
    intro q hq4
    have e := hw.2 q hq4
    rw [t0] at e hz
    rcases hq q hq4 with ⟨e1, t⟩ | ⟨e1, t⟩ | ⟨e1, t⟩
    · rw [t] at e; exact absurd e h2
    · rw [t] at e; rcases h3 with h3 | h3; exact absurd e h3; rw [h3] at e; exact absurd e.symm hz
    · exact e1
theorem great_le (l : List Int) (M : Int) (h0 : 0 ≤ M) (h : ∀ q, q < 4 → tagL l q ≤ M) : greatL l 4 ≤ M := by
  have a := h 0 (by decide)
  have b := h 1 (by decide)
  have c := h 2 (by decide)
  have d := h 3 (by decide)
  simp only [greatL]
  omega
theorem zeros_tag (q : Nat) (hq : q < 4) : tagL zeros q = 0 := by
  rcases (by omega : q = 0 ∨ q = 1 ∨ q = 2 ∨ q = 3) with rfl | rfl | rfl | rfl <;> decide
/-- A put block's numbers: the number, or 0. -/
theorem putB_tag (n : Int) (x : List Int) (hn : U32 n) : ((putB n x).2 = 0 ∧ 1 ≤ n ∧ x.length ≤ 44 ∧ ∀ q, q < 4 → tagL (putB n x).1 q = n) ∨ ((putB n x).2 ≠ 0 ∧ (n < 1 ∨ 44 < x.length) ∧ (putB n x).1 = zeros ∧ ∀ q, q < 4 → tagL (putB n x).1 q = 0) := by
  by_cases h1 : 44 < x.length
  · have e : putB n x = (zeros, 3) := by unfold putB; rw [if_pos h1]
    rw [e]
    exact .inr ⟨by decide, .inr h1, rfl, zeros_tag⟩
  · by_cases h2 : n < 1
    · have e : putB n x = (zeros, 2) := by unfold putB; rw [if_neg h1, if_pos h2]
      rw [e]
      exact .inr ⟨by decide, .inl h2, rfl, zeros_tag⟩
    · have g := putB_good n x hn (by omega) (by omega)
      exact .inl ⟨g.1, by omega, by omega, g.2.1⟩
end Go.Proofs.Ytjenbffnpekbjaa.F
