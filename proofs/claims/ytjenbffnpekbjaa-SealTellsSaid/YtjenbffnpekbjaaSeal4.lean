/- seal.Put. -/
import Derived.Test.YtjenbffnpekbjaaSeal3
import Derived.Test.YtjenbffnpekbjaaWalkBackN
import Derived.Test.YtjenbffnpekbjaaPureOne
namespace Go.Proofs.Ytjenbffnpekbjaa.F
open Go.RowKit Go.Proofs.YtjenbffnpekbjaaW.PrintWords Go.Proofs.YtjenbffnpekbjaaW.PrintLast Go.Proofs.YtjenbffnpekbjaaW.PrintMore
set_option linter.unusedVariables false
/-- The sum of a number and its body. -/
def fnv (n : Int) (x : List Int) : Int := fold (fold 2166136261 (bs n 4)) x
theorem fnv_range (n : Int) (x : List Int) : U32 (fnv n x) := fold_range (fold_range u32_begin)
theorem sealed_eq (n : Int) (x : List Int) (hn : U32 n) (hl : x.length ≤ 140737488351232) : seal_sealed.f (x.length + 12) n x = some (bs n 4, bs (fnv n x) 4) := by
  have e1 : ∀ y, U32 y → num_Put.f 12 (IntKind.u64.wrap y) 4 = some (bs y 4, 0) := by
    intro y hy
    have hy' : IntKind.u64.wrap y = y := by unfold U32 at hy; rw [IntKind.wrap_u64]; omega
    rw [hy', num_put_eq y 4 (by unfold U64; unfold U32 at hy; omega) (by unfold I64; omega)]
    have : y < top 4 := by unfold U32 at hy; simp [top]; omega
    simp [putR, IsSz, this]
  have m : ∀ k a b c, num_Put.f 12 a b = some c → num_Put.f (12 + k) a b = some c := by
    intro k a b c h
    induction k with
    | zero => exact h
    | succ k ih => exact num_Put.mono a b (12 + k) _ ih
  have e2 : ∀ y, U32 y → num_Put.f (x.length + 12) (IntKind.u64.wrap y) 4 = some (bs y 4, 0) := by
    intro y hy
    rw [Nat.add_comm]
    exact m x.length _ _ _ (e1 y hy)
  have hb : (bs n 4).length = 4 := bs_length n 4 (by unfold IsSz; simp)
  unfold seal_sealed.f
  rw [e2 n hn]
  simp only [Option.bind_some]
  rw [of_eq _ _ (by rw [hb]; omega) (by rw [hb]; omega)]
  simp only [Option.bind_some]
  rw [more_eq _ _ _ (by omega) (by omega)]
  simp only [Option.bind_some]
  rw [show fold (fold 2166136261 (bs n 4)) x = fnv n x from rfl, e2 _ (fnv_range n x)]
  rfl
theorem C_drop {w : World} {b len : Nat} {l : List Int} (h : Kd.C (Kd.int .u8) w (some ⟨b, 0, none⟩) len l) (lo m : Nat) (hm : m = len - lo) (hlo : lo ≤ len) : Kd.C (Kd.int .u8) w (some ⟨b, lo, none⟩) m (l.drop lo) := by
  subst hm
  have hr := Kd.reads_of_C (d := (0 : Int)) h
  have hl : l.length = len := hr.1
  refine Kd.C_of_reads (d := 0) ⟨by simp; omega, by have := hr.2.1; omega, fun _ => ⟨_, rfl, fun j hj => ?_⟩⟩
  have := cell_of_C h (lo + j) (by omega)
  rw [Go.WideShapes.add_plain] at this ⊢
  rw [show lo + j = 0 + (lo + j) by omega, this]
  simp [List.getD_eq_getElem?_getD]
/-- A slice of one's own, that is not empty. -/
theorem own_at {w : World} {base n : Nat} {v : Value} {xs : List Int} (h : w.ownsRow base 5 1 v xs.length (encs (Value.int .u8) xs)) (hn : xs.length = n) (h0 : 0 < n) : ∃ g c, v = .slice (some ⟨g, 0, none⟩) n c ∧ base ≤ g ∧ n ≤ c ∧ Kd.C (Kd.int .u8) w (some ⟨g, 0, none⟩) n xs := by
  subst hn
  obtain ⟨A, c, e, hc, hC⟩ := own_C h
  rcases h.2 with ⟨e2, h2⟩ | ⟨g, cap, cur, e2, hb, _⟩
  · omega
  · rw [e] at e2
    injection e2 with e3 e4 e5
    subst e3
    exact ⟨g, c, e, hb, hc, hC⟩
theorem C_len {w : World} {A : Option Addr} {n : Nat} {l : List Int} (h : Kd.C (Kd.int .u8) w A n l) : l.length = n := (Kd.reads_of_C (d := (0 : Int)) h).1
theorem sealed_at (n : Int) (A1 : Option Addr) (c1 m : Nat) (x : List Int) (w : World) (hn : U32 n) (hx : x.length = m) (hl : m ≤ 140737488351232) (hr : Kd.C (Kd.int .u8) w A1 m x) (hc : m ≤ c1) :
    Calls Try.prog 56 #[.int .u32 n, .slice A1 m c1] w fun e w' => ∃ g0 c0 g1 c2, e = .returned (.tuple #[.slice (some ⟨g0, 0, none⟩) 4 c0, .slice (some ⟨g1, 0, none⟩) 4 c2]) ∧ w.heap.size ≤ g0 ∧ w.heap.size ≤ g1 ∧ 4 ≤ c0 ∧ 4 ≤ c2
      ∧ Kd.C (Kd.int .u8) w' (some ⟨g0, 0, none⟩) 4 (bs n 4) ∧ Kd.C (Kd.int .u8) w' (some ⟨g1, 0, none⟩) 4 (bs (fnv n x) 4) ∧ Below w.heap.size w w' := by
  subst hx
  refine (seal_sealed.calls _ n A1 c1 x _ _ w hr hc (sealed_eq n x hn hl)).mono ?_
  rintro e w' ⟨v0, v1, rfl, h0, h1, hb⟩
  have k0 := Kd.own_of_R h0
  have k1 := Kd.own_of_R h1
  obtain ⟨g0, c0, rfl, a1, a2, a3⟩ := own_at k0 (bs_length n 4 (by unfold IsSz; simp)) (by decide)
  obtain ⟨g1, c2, rfl, b1, b2, b3⟩ := own_at k1 (bs_length (fnv n x) 4 (by unfold IsSz; simp)) (by decide)
  exact ⟨g0, c0, g1, c2, rfl, a1, b1, a2, b2, a3, b3, hb⟩
end Go.Proofs.Ytjenbffnpekbjaa.F
