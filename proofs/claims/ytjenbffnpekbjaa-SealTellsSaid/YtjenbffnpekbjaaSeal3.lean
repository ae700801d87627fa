/- seal.Mix. -/
import Derived.Test.YtjenbffnpekbjaaSeal2
namespace Go.Proofs.Ytjenbffnpekbjaa.F
open Go.RowKit Go.Proofs.YtjenbffnpekbjaaW.PrintWords Go.Proofs.YtjenbffnpekbjaaW.PrintLast Go.Proofs.YtjenbffnpekbjaaW.PrintMore
set_option linter.unusedVariables false
def bitOn (bits : Int) (q : Nat) : Bool := decide (0 < Go.bits .and .u8 bits (2 ^ q % 256))
def quarterL (l : List Int) (q : Nat) : List Int := (l.drop (16 * q)).take 16
/-- The mix, up to the first q quarters. -/
def mixL (a b : List Int) (bits : Int) : Nat → List Int
  | 0 => a
  | q + 1 => if bitOn bits q then lay (mixL a b bits q) (16 * q) (quarterL b q) else mixL a b bits q
theorem quarterL_length (l : List Int) (q : Nat) (hl : l.length = 64) (hq : q < 4) : (quarterL l q).length = 16 := by simp [quarterL]; omega
theorem mixL_length (a b : List Int) (bits : Int) (ha : a.length = 64) (hb : b.length = 64) : ∀ q, q ≤ 4 → (mixL a b bits q).length = 64 := by
  intro q
  induction q with
  | zero => intro _; exact ha
  | succ q ih =>
    intro h
    have := ih (by omega)
    simp only [mixL]
    split
    · rw [lay_length _ _ _ (by rw [quarterL_length b q hb (by omega)]; omega)]; exact this
    · exact this
def zeros : List Int := List.replicate 64 0
theorem start3 (w : World) (a b : List Int) (zs : Array Value) (hz : zs = cellsOf zeros) :
    HasB (((w.alloc (.cells (cellsOf a) 47)).alloc (.cells (cellsOf b) 47)).alloc (.cells zs 47)) w.heap.size a ∧ HasB (((w.alloc (.cells (cellsOf a) 47)).alloc (.cells (cellsOf b) 47)).alloc (.cells zs 47)) (w.heap.size + 1) b
    ∧ HasB (((w.alloc (.cells (cellsOf a) 47)).alloc (.cells (cellsOf b) 47)).alloc (.cells zs 47)) (w.heap.size + 1 + 1) zeros ∧ Below w.heap.size w (((w.alloc (.cells (cellsOf a) 47)).alloc (.cells (cellsOf b) 47)).alloc (.cells zs 47)) := by
  subst hz
  refine ⟨((HasB.new w a _ rfl).alloc _).alloc _, (HasB.new _ b _ (by simp)).alloc _, HasB.new _ zeros _ (by simp), ?_⟩
  exact ((((Below.refl _ w).alloc (Nat.le_refl _) _).alloc (by simp) _).alloc (by simp; omega) _)
set_option maxHeartbeats 1000000 in
theorem mix_calls (a b : List Int) (bits : Int) (ha : a.length = 64) (hb : b.length = 64) (w : World) :
    Calls Try.prog 45 #[.agg (cellsOf a), .agg (cellsOf b), .int .u8 bits] w fun e w' => e = .returned (.agg (cellsOf (mixL a b bits 4))) ∧ Below w.heap.size w w' := by
  have HA := Aside0.mk ha
  have HB := Aside0.mk hb
  have ML := Aside0.mk (mixL_length a b bits ha hb)
  clear ha hb
  go_enter Try.func45, Try.ntmps45
  go_wp2
  go_loopg [8] 4 (fun kq v8 w' => ∃ q : Nat, Aside0 (q + kq = 4) ∧ v8 = .int .i64 q ∧ Aside0 (HasB w' w.heap.size (mixL a b bits q)) ∧ Aside0 (HasB w' (w.heap.size + 1) b) ∧ Aside0 (∃ z, z.length = 64 ∧ HasB w' (w.heap.size + 1 + 1) z) ∧ Aside0 (Below w.heap.size w w'))
  case atStart =>
    obtain ⟨h1, h2, h3, h4⟩ := start3 w a b _ rfl
    exact ⟨0, ⟨rfl⟩, rfl, ⟨h1⟩, ⟨h2⟩, ⟨_, rfl, h3⟩, ⟨h4⟩⟩
  case round =>
    obtain ⟨q, HQ, rfl, H1, H2, H3, HW⟩ := hrel
    cases gk with
    | zero =>
      have e := HQ.out
      obtain rfl : q = 4 := by omega
      obtain ⟨z, hz, h3⟩ := H3.out
      have HZ := Aside0.mk hz
      have H3' := Aside0.mk h3
      clear hz h3
      go_wp2_with (first
        | ((with_reducible refine gate_load47 rfl ?_); refine loadB rfl (.tmp 3) rfl w.heap.size rfl _ (ML.out 4 (Nat.le_refl _)) H1.out ?_)
        | ((with_reducible refine gate_store47 rfl ?_); refine storeB rfl (.tmp 6) (.tmp 22) rfl (w.heap.size + 1 + 1) rfl _ z (ML.out 4 (Nat.le_refl _)) HZ.out rfl H3'.out ?_; intro w1 hs ht))
      refine bodyPost_ret (run_result1 (p := 6) rfl _ _ (w.heap.size + 1 + 1) _ (ML.out 4 (Nat.le_refl _)) rfl hs) rfl ?_
      exact ⟨rfl, ht.below HW.out (by omega)⟩
    | succ k1 =>
      have c : (q : Int) < 4 := by have := HQ.out; omega
      have HQ4 := Aside0.mk (show q < 4 by have := HQ.out; omega)
      have hbit : bitOn bits q = decide (0 < Go.bits .and .u8 bits (2 ^ q % 256)) := rfl
      cases hb : bitOn bits q
      · rw [hb] at hbit
        have hle : Go.bits .and .u8 bits (2 ^ q % 256) ≤ 0 := by have := of_decide_eq_false hbit.symm; omega
        clear hbit
        go_wp2
        go_roundg k1
        case measure => omega
        case rel => exact ⟨q + 1, ⟨by have := HQ.out; omega⟩, by go_num, by rw [show mixL a b bits (q + 1) = mixL a b bits q by simp [mixL, hb]]; exact H1, H2, H3, HW⟩
      · rw [hb] at hbit
        have hlt : 0 < Go.bits .and .u8 bits (2 ^ q % 256) := of_decide_eq_true hbit.symm
        clear hbit
        go_wp2_with (first
          | (go_at_call 57; ((with_reducible refine (quarter_calls _ q HQ4.out _).mono ?_); rintro e w1 ⟨rfl, rfl⟩))
          | ((with_reducible refine gate_builtin (b := .copy) (xs := #[.tmp 17, .tmp 19]) rfl ?_); go_must (refine copyB rfl (.tmp 17) (.tmp 19) rfl w.heap.size (16 * q) 16 16 (some ⟨w.heap.size + 1, 16 * q, none⟩) 16 16 rfl rfl (mixL a b bits q) (quarterL b q) 47 H1.out ?c1 16 rfl ?c2 ?_; (case c1 => (have := H2.out.C (16 * q) 16 (by have := HQ4.out; have := HB.out; omega) (by rw [HB.out]; decide)); rwa [show ((b.drop (16 * q)).take 16).length = 16 from quarterL_length b q HB.out HQ4.out] at this); (case c2 => rw [ML.out q (by have := HQ4.out; omega)]; have := HQ4.out; omega); intro w1 hm ht; have HM := Aside0.mk hm; have HT := Aside0.mk ht; clear hm ht)))
        have hm := HM.out
        have ht := HT.out
        have hq16 : (quarterL b q).take 16 = quarterL b q := List.take_of_length_le (by rw [quarterL_length b q HB.out HQ4.out]; exact Nat.le_refl _)
        rw [hq16] at hm
        obtain ⟨z, hz, h3⟩ := H3.out
        go_roundg k1
        case measure => omega
        case rel => exact ⟨q + 1, ⟨by have := HQ.out; omega⟩, by go_num, ⟨by rw [show mixL a b bits (q + 1) = lay (mixL a b bits q) (16 * q) (quarterL b q) by simp [mixL, hb]]; exact hm⟩, ⟨H2.out.turn ht (by omega)⟩, ⟨z, hz, h3.turn ht (by omega)⟩, ⟨ht.below HW.out (Nat.le_refl _)⟩⟩
end Go.Proofs.Ytjenbffnpekbjaa.F
