/- With one byte changed a good block is refused. -/
import Derived.Test.YtjenbffnpekbjaaSeal8
namespace Go.Proofs.Ytjenbffnpekbjaa.F
open Go.RowKit Go.Proofs.YtjenbffnpekbjaaW.PrintWords Go.Proofs.YtjenbffnpekbjaaW.PrintLast Go.Proofs.YtjenbffnpekbjaaW.PrintMore
set_option linter.unusedVariables false
theorem be_inj : ∀ (a b : List Int), a.length = b.length → Bytes a → Bytes b → be a = be b → a = b := by
  intro a
  induction a with
  | nil => intro b h _ _ _; cases b with
    | nil => rfl
    | cons d b => cases h
  | cons c a ih =>
    intro b h ha hb e
    cases b with
    | nil => cases h
    | cons d b =>
      have hl : a.length = b.length := by simpa using h
      have ra := be_range a (fun x hx => ha x (by simp [hx]))
      have rb := be_range b (fun x hx => hb x (by simp [hx]))
      rw [be_cons, be_cons, hl] at e
      rw [hl] at ra
      obtain ⟨p, hp⟩ : ∃ p : Int, (256 : Int) ^ b.length = p := ⟨_, rfl⟩
      rw [hp] at e ra rb
      have hcd : c = d := by
        rcases Int.lt_trichotomy c d with h1 | h1 | h1
        · have : (c + 1) * p ≤ d * p := Int.mul_le_mul_of_nonneg_right (by omega) (by omega)
          rw [Int.add_mul] at this
          omega
        · exact h1
        · have : (d + 1) * p ≤ c * p := Int.mul_le_mul_of_nonneg_right (by omega) (by omega)
          rw [Int.add_mul] at this
          omega
      subst hcd
      rw [ih b hl (fun x hx => ha x (by simp [hx])) (fun x hx => hb x (by simp [hx])) (by omega)]
theorem inner_get (l : List Int) (hl : l.length = 64) (k : Nat) : ∀ q, q ≤ 4 → (innerL l q)[k]? = if k < 12 * q then l[16 * (k / 12) + 4 + k % 12]? else none := by
  intro q
  induction q with
  | zero => intro _; rw [if_neg (by omega)]; rfl
  | succ q ih =>
    intro hq
    rw [innerL, List.getElem?_append, innerL_length l hl q (by omega), ih (by omega), List.getElem?_take, List.getElem?_drop]
    by_cases h1 : k < 12 * q
    · rw [if_pos h1, if_pos h1, if_pos (by omega)]
    · rw [if_neg h1]
      by_cases h2 : k < 12 * (q + 1)
      · rw [if_pos (by omega), if_pos h2]
        have e : k / 12 = q := by omega
        rw [show 16 * q + 4 + (k - 12 * q) = 16 * (k / 12) + 4 + k % 12 by omega]
      · rw [if_neg (by omega), if_neg h2]
theorem keeps_pure (X : List Int) (hl : X.length = 64) (h8 : Bytes X) (hw : Whole X) (hr : Right X) (i : Nat) (hi : i < 64) (c : Int) (hc : 0 ≤ c ∧ c < 256) (h : getE (X.set i c) = 0) : X[i]? = some c := by
  obtain ⟨hw', hr'⟩ := getE_ok _ h
  have hl' : (X.set i c).length = 64 := by rw [List.length_set]; exact hl
  have h8' : Bytes (X.set i c) := by
    intro x hx
    rcases List.mem_or_eq_of_mem_set hx with hx | rfl
    · exact h8 x hx
    · exact hc
  have get : ∀ k, k ≠ i → (X.set i c)[k]? = X[k]? := fun k hk => by rw [List.getElem?_set, if_neg (fun e => hk e.symm)]
  have geti : (X.set i c)[i]? = some c := by rw [List.getElem?_set, if_pos rfl, if_pos (by omega)]
  -- a quarter that is not touched in its number
  have tag_same : ∀ q, q < 4 → (∀ j, j < 4 → 16 * q + j ≠ i) → tagL (X.set i c) q = tagL X q := by
    intro q hq hne
    unfold tagL
    congr 1
    apply List.ext_getElem?
    intro j
    rw [List.getElem?_take, List.getElem?_take, List.getElem?_drop, List.getElem?_drop]
    by_cases hj : j < 4
    · rw [if_pos hj, if_pos hj, get _ (hne j hj)]
    · rw [if_neg hj, if_neg hj]
  by_cases h4 : i % 16 < 4
  · obtain ⟨q', hq', hne⟩ : ∃ q', q' < 4 ∧ q' ≠ i / 16 := by
      by_cases h0 : i / 16 = 0
      · exact ⟨1, by decide, by omega⟩
      · exact ⟨0, by decide, by omega⟩
    have e1 := tag_same q' hq' (by intro j hj; omega)
    have e2 : tagL (X.set i c) (i / 16) = tagL X (i / 16) := by
      rw [hw'.2 (i / 16) (by omega), ← hw'.2 q' hq', e1, hw.2 q' hq', hw.2 (i / 16) (by omega)]
    unfold tagL at e2
    have e3 := be_inj _ _ (by simp) (fun x hx => h8' x (List.mem_of_mem_drop (List.mem_of_mem_take hx))) (fun x hx => h8 x (List.mem_of_mem_drop (List.mem_of_mem_take hx))) e2
    have e4 := congrArg (fun l => l[i % 16]?) e3
    simp only [List.getElem?_take, List.getElem?_drop, if_pos h4, show 16 * (i / 16) + i % 16 = i by omega] at e4
    rw [geti] at e4
    exact e4.symm
  · have ht : tagL (X.set i c) 0 = tagL X 0 := tag_same 0 (by decide) (by intro j hj; omega)
    have hI : ∀ k, (innerL (X.set i c) 4)[k]? = if k = 12 * (i / 16) + (i % 16 - 4) then some c else (innerL X 4)[k]? := by
      intro k
      rw [inner_get _ hl' k 4 (by decide), inner_get _ hl k 4 (by decide)]
      by_cases hk : k = 12 * (i / 16) + (i % 16 - 4)
      · rw [if_pos hk, if_pos (by omega), show 16 * (k / 12) + 4 + k % 12 = i by omega, geti]
      · rw [if_neg hk]
        by_cases h2 : k < 12 * 4
        · rw [if_pos h2, if_pos h2, get _ (by omega)]
        · rw [if_neg h2, if_neg h2]
    have hX : X[i]? = (innerL X 4)[12 * (i / 16) + (i % 16 - 4)]? := by
      rw [inner_get _ hl _ 4 (by decide), if_pos (by omega)]
      congr 1
      omega
    have hn1 := innerL_length X hl 4 (by decide)
    have hn2 := innerL_length _ hl' 4 (by decide)
    have h8i := innerL_bytes X h8 4
    have hset : innerL (X.set i c) 4 = (innerL X 4).set (12 * (i / 16) + (i % 16 - 4)) c := by
      apply List.ext_getElem?
      intro k
      rw [hI k, List.getElem?_set]
      by_cases hk : k = 12 * (i / 16) + (i % 16 - 4)
      · rw [if_pos hk, if_pos hk.symm, if_pos (by omega)]
      · rw [if_neg hk, if_neg (fun e => hk e.symm)]
    unfold Right at hr hr'
    rw [ht, hset] at hr'
    generalize innerL X 4 = I at *
    generalize hidx : 12 * (i / 16) + (i % 16 - 4) = idx at *
    have hidx48 : idx < 48 := by omega
    rw [hX]
    by_cases hlt : idx < 44
    · have e1 : (I.set idx c).take 44 = (I.take 44).set idx c := by
        apply List.ext_getElem?
        intro k
        simp only [List.getElem?_take, List.getElem?_set, List.length_take]
        by_cases hk : k < 44
        · simp only [if_pos hk]
          by_cases hki : idx = k
          · rw [if_pos hki, if_pos hki, if_pos (by omega), if_pos (by omega)]
          · rw [if_neg hki, if_neg hki]
        · simp only [if_neg hk]
          rw [if_neg (by omega)]
      have e2 : (I.set idx c).drop 44 = I.drop 44 := by
        apply List.ext_getElem?
        intro k
        rw [List.getElem?_drop, List.getElem?_drop, List.getElem?_set, if_neg (by omega)]
      rw [e1, e2, ← hr] at hr'
      have hb1 := be_bs (fnv (tagL X 0) ((I.take 44).set idx c)) 4 (by unfold IsSz; simp) (fnv_range _ _).1 (by have := (fnv_range (tagL X 0) ((I.take 44).set idx c)).2; simp [top]; omega)
      have hb2 := be_bs (fnv (tagL X 0) (I.take 44)) 4 (by unfold IsSz; simp) (fnv_range _ _).1 (by have := (fnv_range (tagL X 0) (I.take 44)).2; simp [top]; omega)
      rw [hr', hb2] at hb1
      have hlen : idx < (I.take 44).length := by rw [List.length_take]; omega
      have hone := (fold_one (fold 2166136261 (bs (tagL X 0) 4)) (I.take 44) (fold_range u32_begin) (fun x hx => h8i x (List.mem_of_mem_take hx)) idx hlen c hc).1 hb1.symm
      rw [hone, List.getElem_take, List.getElem?_eq_getElem]
    · have e1 : (I.set idx c).take 44 = I.take 44 := by
        apply List.ext_getElem?
        intro k
        simp only [List.getElem?_take, List.getElem?_set]
        by_cases hk : k < 44
        · rw [if_pos hk, if_pos hk, if_neg (by omega)]
        · rw [if_neg hk, if_neg hk]
      rw [e1, hr] at hr'
      have e4 := congrArg (fun l => l[idx - 44]?) hr'
      simp only [List.getElem?_drop, show 44 + (idx - 44) = idx by omega, List.getElem?_set, if_pos] at e4
      rw [e4, if_pos (by omega)]
end Go.Proofs.Ytjenbffnpekbjaa.F
