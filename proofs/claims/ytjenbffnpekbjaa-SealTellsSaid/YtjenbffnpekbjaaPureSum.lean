/- Plain laws of the sum: what a fold of FNV-1a's step gives, and that a step can be undone. No program in sight but the printed functions. -/
import Derived.Test.YtjenbffnpekbjaaLives03
import Derived.Laws.BitsAllLaws
import Derived.OpenShut
namespace Go.Proofs.Ytjenbffnpekbjaa.F
open Go.RowKit Go.Proofs.YtjenbffnpekbjaaW.PrintWords Go.Proofs.YtjenbffnpekbjaaW.PrintLast Go.Proofs.YtjenbffnpekbjaaW.PrintMore

def tk (s c : Int) : Int := ((Go.bits .xor .u32 s (c % 4294967296)) * 16777619) % 4294967296
def bk (s c : Int) : Int := Go.bits .xor .u32 ((s * 899433627) % 4294967296) (c % 4294967296)
def U32 (s : Int) : Prop := 0 ≤ s ∧ s < 4294967296
def U8 (c : Int) : Prop := 0 ≤ c ∧ c < 256
theorem xor_lt (a b : Nat) (ha : a < 4294967296) (hb : b < 4294967296) : a ^^^ b < 4294967296 := by
  have : a ^^^ b < 2 ^ 32 := Nat.xor_lt_two_pow (by omega) (by omega)
  omega
theorem tk_nat (s c : Nat) (hs : s < 4294967296) (hc : c < 256) : tk s c = (((s ^^^ c) * 16777619 % 4294967296 : Nat) : Int) := by
  unfold tk
  have e : ((c : Int) % 4294967296) = ((c : Nat) : Int) := by omega
  rw [e, u32_xor_nat s c hs (by omega)]
  omega
theorem bk_nat (s c : Nat) (_hs : s < 4294967296) (hc : c < 256) : bk s c = ((((s * 899433627) % 4294967296) ^^^ c : Nat) : Int) := by
  unfold bk
  have e : ((c : Int) % 4294967296) = ((c : Nat) : Int) := by omega
  have e2 : ((s : Int) * 899433627 % 4294967296) = (((s * 899433627) % 4294967296 : Nat) : Int) := by omega
  rw [e, e2, u32_xor_nat _ c (by omega) (by omega)]
theorem tk_range (s c : Int) : U32 (tk s c) := by
  unfold tk U32
  omega
theorem bk_range {s c : Int} (hs : U32 s) (hc : U8 c) : U32 (bk s c) := by
  obtain ⟨a, rfl⟩ := Int.eq_ofNat_of_zero_le hs.1
  obtain ⟨b, rfl⟩ := Int.eq_ofNat_of_zero_le hc.1
  have ha := hs.2
  have hb := hc.2
  rw [bk_nat a b (by omega) (by omega)]
  have := xor_lt ((a * 899433627) % 4294967296) b (by omega) (by omega)
  unfold U32
  omega
theorem mul_inv (x : Nat) (hx : x < 4294967296) : x * 16777619 % 4294967296 * 899433627 % 4294967296 = x := by omega
theorem bk_tk {s c : Int} (hs : U32 s) (hc : U8 c) : bk (tk s c) c = s := by
  obtain ⟨a, rfl⟩ := Int.eq_ofNat_of_zero_le hs.1
  obtain ⟨b, rfl⟩ := Int.eq_ofNat_of_zero_le hc.1
  have ha := hs.2
  have hb := hc.2
  rw [tk_nat a b (by omega) (by omega), bk_nat _ b (by omega) (by omega)]
  have hx := xor_lt a b (by omega) (by omega)
  rw [mul_inv _ hx, Nat.xor_assoc, Nat.xor_self, Nat.xor_zero]
theorem tk_bk {s c : Int} (hs : U32 s) (hc : U8 c) : tk (bk s c) c = s := by
  obtain ⟨a, rfl⟩ := Int.eq_ofNat_of_zero_le hs.1
  obtain ⟨b, rfl⟩ := Int.eq_ofNat_of_zero_le hc.1
  have ha := hs.2
  have hb := hc.2
  rw [bk_nat a b (by omega) (by omega), tk_nat _ b (xor_lt _ _ (by omega) (by omega)) (by omega)]
  rw [Nat.xor_assoc, Nat.xor_self, Nat.xor_zero]
  omega
theorem tk_inj_s {s s' c : Int} (hs : U32 s) (hs' : U32 s') (hc : U8 c) (h : tk s c = tk s' c) : s = s' := by
  rw [← bk_tk hs hc, h, bk_tk hs' hc]
theorem xor_inj (a b c : Nat) (h : a ^^^ b = a ^^^ c) : b = c := by
  have := congrArg (a ^^^ ·) h
  simpa [← Nat.xor_assoc] using this
theorem tk_inj_c {s c c' : Int} (hs : U32 s) (hc : U8 c) (hc' : U8 c') (h : tk s c = tk s c') : c = c' := by
  obtain ⟨a, rfl⟩ := Int.eq_ofNat_of_zero_le hs.1
  obtain ⟨b, rfl⟩ := Int.eq_ofNat_of_zero_le hc.1
  obtain ⟨d, rfl⟩ := Int.eq_ofNat_of_zero_le hc'.1
  have ha := hs.2
  have hb := hc.2
  have hd := hc'.2
  rw [tk_nat a b (by omega) (by omega), tk_nat a d (by omega) (by omega)] at h
  have h1 := xor_lt a b (by omega) (by omega)
  have h2 := xor_lt a d (by omega) (by omega)
  have e : a ^^^ b = a ^^^ d := by rw [← mul_inv _ h1, ← mul_inv _ h2, Int.ofNat.inj h]
  rw [xor_inj a b d e]

/-- The sum of bytes, from a sum on. -/
def fold (s : Int) (l : List Int) : Int := l.foldl tk s
theorem fold_range {l : List Int} : ∀ {s : Int}, U32 s → U32 (fold s l) := by
  induction l with
  | nil => intro s hs; exact hs
  | cons c l ih => intro s _; exact ih (tk_range s c)
theorem fold_append (s : Int) (a b : List Int) : fold s (a ++ b) = fold (fold s a) b := by simp [fold]
theorem fold_inj {l : List Int} : ∀ {s s' : Int}, U32 s → U32 s' → (∀ x ∈ l, U8 x) → fold s l = fold s' l → s = s' := by
  induction l with
  | nil => intro s s' _ _ _ h; exact h
  | cons c l ih =>
    intro s s' hs hs' h he
    have hc := h c (by simp)
    exact tk_inj_s hs hs' hc (ih (tk_range s c) (tk_range s' c) (fun x hx => h x (by simp [hx])) he)
theorem take_eq (s c : Int) : sum_Take.f s c = some (tk s c) := rfl
theorem back_eq (s c : Int) : sum_Back.f s c = some (bk s c) := rfl
theorem rd_lt (l : List Int) (i : Nat) (h : i < l.length) : rd l (i : Int) = l[i] := by
  simp [rd, List.getD_eq_getElem?_getD, List.getElem?_eq_getElem h]
theorem wrap_up {i n : Nat} (h : i < n) (hn : n ≤ 140737488355328) : wrap64 ((i : Int) + 1) = ((i + 1 : Nat) : Int) := by
  unfold wrap64
  omega
theorem more_loop (l : List Int) (hl : l.length ≤ 140737488355328) (d : Nat) : ∀ (k i : Nat) (s : Int), i ≤ l.length → l.length - i = d → d < k →
    sum_More.l0 k s l (l.length : Int) (i : Int) = some (fold s (l.drop i)) := by
  induction d with
  | zero =>
    intro k i s hi hd hk
    obtain ⟨k, rfl⟩ : ∃ m, k = m + 1 := ⟨k - 1, by omega⟩
    simp only [sum_More.l0]
    rw [if_neg (by omega), List.drop_eq_nil_of_le (by omega)]
    rfl
  | succ d ih =>
    intro k i s hi hd hk
    obtain ⟨k, rfl⟩ : ∃ m, k = m + 1 := ⟨k - 1, by omega⟩
    have hlt : i < l.length := by omega
    simp only [sum_More.l0]
    rw [if_pos (by omega), if_pos (by omega), if_pos (by omega), rd_lt l i hlt, take_eq, Option.bind_some, wrap_up hlt hl, ih k (i + 1) _ (by omega) (by omega) (by omega), List.drop_eq_getElem_cons hlt]
    rfl
theorem more_eq (k : Nat) (s : Int) (l : List Int) (hl : l.length ≤ 140737488355328) (hk : l.length < k) : sum_More.f k s l = some (fold s l) := by
  have h := more_loop l hl l.length k 0 s (by omega) (by omega) hk
  simpa [sum_More.f] using h
theorem of_eq (k : Nat) (l : List Int) (hl : l.length ≤ 140737488355328) (hk : l.length < k) : sum_Of.f k l = some (fold 2166136261 l) := by
  simp [sum_Of.f, more_eq k _ l hl hk]
theorem u32_begin : U32 2166136261 := by unfold U32; omega
theorem u8_of_wf {l : List Int} (h : ∀ x ∈ l, (Lit.int .u8 x).wf = true) : ∀ x ∈ l, U8 x := fun x hx => by
  have := bounds_u8 (h x hx)
  unfold U8
  omega

end Go.Proofs.Ytjenbffnpekbjaa.F
