/- Plain laws of blocks: quarters, what a sealed block says, what a mix says. -/
import Derived.Test.YtjenbffnpekbjaaSeal6
namespace Go.Proofs.Ytjenbffnpekbjaa.F
open Go.RowKit Go.Proofs.YtjenbffnpekbjaaW.PrintWords Go.Proofs.YtjenbffnpekbjaaW.PrintLast Go.Proofs.YtjenbffnpekbjaaW.PrintMore
set_option linter.unusedVariables false
theorem lay_get (L cs : List Int) (off i : Nat) (h : off + cs.length ≤ L.length) : (lay L off cs)[i]? = if i < off then L[i]? else if i < off + cs.length then cs[i - off]? else L[i]? := by
  unfold lay
  rw [List.append_assoc, List.getElem?_append, List.length_take, Nat.min_eq_left (by omega)]
  by_cases h1 : i < off
  · rw [if_pos h1, if_pos h1, List.getElem?_take, if_pos h1]
  · rw [if_neg h1, if_neg h1, List.getElem?_append]
    by_cases h2 : i < off + cs.length
    · rw [if_pos h2, if_pos (by omega)]
    · rw [if_neg h2, if_neg (by omega), List.getElem?_drop]
      congr 1
      omega
theorem quarter_get (l : List Int) (q i : Nat) : (quarterL l q)[i]? = if i < 16 then l[16 * q + i]? else none := by
  unfold quarterL
  rw [List.getElem?_take, List.getElem?_drop]
theorem quarter_lay (L cs : List Int) (p q : Nat) (hL : L.length = 64) (hc : cs.length = 16) (hp : p < 4) (hq : q < 4) : quarterL (lay L (16 * q) cs) p = if p = q then cs else quarterL L p := by
  apply List.ext_getElem?
  intro i
  rw [quarter_get, lay_get _ _ _ _ (by omega)]
  by_cases h : p = q
  · subst h
    rw [if_pos rfl]
    by_cases hi : i < 16
    · rw [if_pos hi, if_neg (by omega), if_pos (by omega)]
      congr 1
      omega
    · rw [if_neg hi, List.getElem?_eq_none (by omega)]
  · rw [if_neg h, quarter_get]
    by_cases hi : i < 16
    · rw [if_pos hi, if_pos hi]
      by_cases h2 : 16 * p + i < 16 * q
      · rw [if_pos h2]
      · rw [if_neg h2, if_neg (by omega)]
    · rw [if_neg hi, if_neg hi]
theorem lay_lay (L T A : List Int) (o m : Nat) (hm : m = o + T.length) (h : o + T.length + A.length ≤ L.length) : lay (lay L o T) m A = lay L o (T ++ A) := by
  subst hm
  apply List.ext_getElem?
  intro i
  rw [lay_get _ _ _ _ (by rw [lay_length _ _ _ (by omega)]; omega), lay_get _ _ _ _ (by omega), lay_get _ _ _ _ (by rw [List.length_append]; omega), List.length_append, List.getElem?_append]
  by_cases h1 : i < o
  · rw [if_pos (by omega), if_pos h1, if_pos h1]
  · by_cases h2 : i < o + T.length
    · rw [if_pos h2, if_neg h1, if_pos h2, if_neg h1, if_pos (by omega), if_pos (by omega)]
    · have g1 : (i < o + (T.length + A.length)) = (i < o + T.length + A.length) := by rw [Nat.add_assoc]
      have g2 : ¬ i - o < T.length := by omega
      simp only [h1, h2, g1, g2, if_false]
      by_cases h3 : i < o + T.length + A.length
      · rw [if_pos h3, if_pos h3]
        congr 1
        omega
      · rw [if_neg h3, if_neg h3]
/-- Two blocks of the same quarters are the same. -/
theorem eq_of_quarters (a b : List Int) (ha : a.length = 64) (hb : b.length = 64) (h : ∀ q, q < 4 → quarterL a q = quarterL b q) : a = b := by
  apply List.ext_getElem?
  intro i
  by_cases hi : i < 64
  · have := congrArg (fun l => l[i % 16]?) (h (i / 16) (by omega))
    simp only [quarter_get, if_pos (show i % 16 < 16 by omega), show 16 * (i / 16) + i % 16 = i by omega] at this
    exact this
  · rw [List.getElem?_eq_none (by omega), List.getElem?_eq_none (by omega)]
theorem tag_quarter (l : List Int) (q : Nat) : tagL l q = be ((quarterL l q).take 4) := by
  unfold tagL quarterL
  rw [List.take_take]
  rfl
/-- The mix's quarters. -/
theorem mix_quarter (a b : List Int) (bits : Int) (ha : a.length = 64) (hb : b.length = 64) (p : Nat) (hp : p < 4) : ∀ q, q ≤ 4 → quarterL (mixL a b bits q) p = if p < q ∧ bitOn bits p = true then quarterL b p else quarterL a p := by
  intro q
  induction q with
  | zero => intro _; rw [if_neg (by omega)]; rfl
  | succ q ih =>
    intro hq
    have e := ih (by omega)
    unfold mixL
    by_cases hbit : bitOn bits q = true
    · rw [if_pos hbit, quarter_lay _ _ _ _ (mixL_length a b bits ha hb q (by omega)) (quarterL_length b q hb (by omega)) hp (by omega), e]
      by_cases h : p = q
      · subst h; rw [if_pos rfl, if_pos ⟨by omega, hbit⟩]
      · rw [if_neg h]
        by_cases h2 : p < q ∧ bitOn bits p = true
        · rw [if_pos h2, if_pos ⟨by omega, h2.2⟩]
        · rw [if_neg h2, if_neg (fun hh => h2 ⟨by omega, hh.2⟩)]
    · rw [if_neg hbit, e]
      by_cases h2 : p < q ∧ bitOn bits p = true
      · rw [if_pos h2, if_pos ⟨by omega, h2.2⟩]
      · rw [if_neg h2, if_neg (fun hh => h2 ⟨by rcases Nat.lt_or_ge p q with h3 | h3; exact h3; exact absurd (show bitOn bits q = true by rw [show q = p by omega]; exact hh.2) hbit, hh.2⟩)]
theorem mix_quarter4 (a b : List Int) (bits : Int) (ha : a.length = 64) (hb : b.length = 64) (p : Nat) (hp : p < 4) : quarterL (mixL a b bits 4) p = if bitOn bits p = true then quarterL b p else quarterL a p := by
  rw [mix_quarter a b bits ha hb p hp 4 (Nat.le_refl _)]
  by_cases h : bitOn bits p = true
  · rw [if_pos ⟨hp, h⟩, if_pos h]
  · rw [if_neg (fun hh => h hh.2), if_neg h]
theorem blk_quarter (n : Int) (all : List Int) (h : all.length = 48) (p : Nat) (hp : p < 4) : ∀ q, q ≤ 4 → quarterL (blkL n all q) p = if p < q then bs n 4 ++ (all.drop (12 * p)).take 12 else quarterL zeros p := by
  intro q
  induction q with
  | zero => intro _; rw [if_neg (by omega)]; rfl
  | succ q ih =>
    intro hq
    have e := ih (by omega)
    have hA : ((all.drop (12 * q)).take 12).length = 12 := by simp; omega
    have hl := blkL_length n all h q (by omega)
    rw [blkL, lay_lay _ _ _ _ _ (by rw [bs4_length]) (by rw [bs4_length, hA, hl]; omega), quarter_lay _ _ _ _ hl (by rw [List.length_append, bs4_length, hA]) hp (by omega), e]
    by_cases h : p = q
    · subst h; rw [if_pos rfl, if_pos (by omega)]
    · rw [if_neg h]
      by_cases h2 : p < q
      · rw [if_pos h2, if_pos (by omega)]
      · rw [if_neg h2, if_neg (by omega)]
theorem blk_quarter4 (n : Int) (all : List Int) (h : all.length = 48) (p : Nat) (hp : p < 4) : quarterL (blkL n all 4) p = bs n 4 ++ (all.drop (12 * p)).take 12 := by
  rw [blk_quarter n all h p hp 4 (Nat.le_refl _), if_pos hp]
theorem blk_tag (n : Int) (all : List Int) (h : all.length = 48) (hn : U32 n) (q : Nat) (hq : q < 4) : tagL (blkL n all 4) q = n := by
  rw [tag_quarter, blk_quarter4 n all h q hq, List.take_append_of_le_length (by rw [bs4_length]; exact Nat.le_refl _), List.take_of_length_le (by rw [bs4_length]; exact Nat.le_refl _)]
  exact be_bs n 4 (by unfold IsSz; simp) hn.1 (by unfold U32 at hn; simp [top]; omega)
theorem inner_part (l : List Int) (q : Nat) : (l.drop (16 * q + 4)).take 12 = (quarterL l q).drop 4 := by
  apply List.ext_getElem?
  intro i
  rw [List.getElem?_take, List.getElem?_drop, List.getElem?_drop, quarter_get]
  by_cases h : i < 12
  · rw [if_pos h, if_pos (by omega)]
    congr 1
    omega
  · rw [if_neg h, if_neg (by omega)]
theorem blk_inner (n : Int) (all : List Int) (h : all.length = 48) : ∀ q, q ≤ 4 → innerL (blkL n all 4) q = all.take (12 * q) := by
  intro q
  induction q with
  | zero => intro _; rfl
  | succ q ih =>
    intro hq
    rw [innerL, ih (by omega), inner_part, blk_quarter4 n all h q (by omega), List.drop_append_of_le_length (by rw [bs4_length]; exact Nat.le_refl _), List.drop_of_length_le (by rw [bs4_length]; exact Nat.le_refl _), List.nil_append, show 12 * (q + 1) = 12 * q + 12 by omega, List.take_add]
theorem blk_inner4 (n : Int) (all : List Int) (h : all.length = 48) : innerL (blkL n all 4) 4 = all := by
  rw [blk_inner n all h 4 (Nat.le_refl _), List.take_of_length_le (by omega)]
theorem lay_bytes (L cs : List Int) (o : Nat) (h1 : Bytes L) (h2 : Bytes cs) : Bytes (lay L o cs) := by
  intro c hc
  unfold lay at hc
  rw [List.mem_append, List.mem_append] at hc
  rcases hc with (hc | hc) | hc
  · exact h1 c (List.mem_of_mem_take hc)
  · exact h2 c hc
  · exact h1 c (List.mem_of_mem_drop hc)
theorem zeros_bytes : Bytes zeros := by
  intro c hc
  unfold zeros at hc
  rw [List.mem_replicate] at hc
  omega
theorem blk_bytes (n : Int) (all : List Int) (h : Bytes all) : ∀ q, Bytes (blkL n all q) := by
  intro q
  induction q with
  | zero => exact zeros_bytes
  | succ q ih =>
    exact lay_bytes _ _ _ (lay_bytes _ _ _ ih (bs_bytes n 4)) (fun c hc => h c (List.mem_of_mem_drop (List.mem_of_mem_take hc)))
theorem mix_bytes (a b : List Int) (bits : Int) (ha : Bytes a) (hb : Bytes b) : ∀ q, Bytes (mixL a b bits q) := by
  intro q
  induction q with
  | zero => exact ha
  | succ q ih =>
    unfold mixL
    split
    · exact lay_bytes _ _ _ ih (fun c hc => hb c (List.mem_of_mem_drop (List.mem_of_mem_take hc)))
    · exact ih
theorem pad_bytes (x : List Int) (h : Bytes x) : Bytes (padL x) := by
  intro c hc
  unfold padL at hc
  rw [List.mem_append, List.mem_replicate] at hc
  rcases hc with hc | hc
  · exact h c hc
  · omega
theorem all_bytes (n : Int) (x : List Int) (h : Bytes x) : Bytes (allL n x) := by
  intro c hc
  unfold allL at hc
  rw [List.mem_append] at hc
  rcases hc with hc | hc
  · exact pad_bytes x h c hc
  · exact bs_bytes _ 4 c hc
theorem zeros_length : zeros.length = 64 := by simp [zeros]
theorem putB_length (n : Int) (x : List Int) : (putB n x).1.length = 64 := by
  unfold putB
  split
  · exact zeros_length
  · split
    · exact zeros_length
    · exact blkL_length n _ (allL_length n x (by omega)) 4 (Nat.le_refl _)
theorem putB_bytes (n : Int) (x : List Int) (h : Bytes x) : Bytes (putB n x).1 := by
  unfold putB
  split
  · exact zeros_bytes
  · split
    · exact zeros_bytes
    · exact blk_bytes n _ (all_bytes n x h) 4
/-- A sealed block is whole, and its sum is right. -/
theorem putB_good (n : Int) (x : List Int) (hn : U32 n) (hx : x.length ≤ 44) (h1 : 1 ≤ n) : (putB n x).2 = 0 ∧ (∀ q, q < 4 → tagL (putB n x).1 q = n) ∧ Whole (putB n x).1 ∧ Right (putB n x).1 ∧ (innerL (putB n x).1 4).take 44 = padL x := by
  have e : putB n x = (blkL n (allL n x) 4, 0) := by unfold putB; rw [if_neg (by omega), if_neg (by omega)]
  have hl := allL_length n x hx
  have hp := padL_length x hx
  rw [e]
  have ht := fun q hq => blk_tag n (allL n x) hl hn q hq
  have h44 : (innerL (blkL n (allL n x) 4) 4).take 44 = padL x := by
    rw [blk_inner4 n _ hl, allL, List.take_append_of_le_length (by omega), List.take_of_length_le (by omega)]
  refine ⟨rfl, ht, ⟨by rw [ht 0 (by decide)]; omega, fun q hq => by rw [ht q hq, ht 0 (by decide)]⟩, ?_, h44⟩
  unfold Right
  rw [h44, ht 0 (by decide), blk_inner4 n _ hl, allL, List.drop_append_of_le_length (by omega), List.drop_of_length_le (by omega), List.nil_append]
theorem zeros_not_whole : ¬ Whole zeros := fun h => h.1 (by decide)
end Go.Proofs.Ytjenbffnpekbjaa.F
