/- Laws on blocks of 64 bytes in memory: whole ones are read, stored; bytes are copied into one. -/
import Derived.Test.YtjenbffnpekbjaaSeal0
import Derived.Laws.CopyOwn
import Derived.Laws.Tables
namespace Go.Proofs.Ytjenbffnpekbjaa.F
open Go.RowKit Go.Proofs.YtjenbffnpekbjaaW.PrintWords Go.Proofs.YtjenbffnpekbjaaW.PrintLast Go.Proofs.YtjenbffnpekbjaaW.PrintMore
set_option linter.unusedVariables false
/-- One block's cells have turned, nothing else. -/
structure Turn (g : Nat) (w w' : World) : Prop where
  os : w'.os = w.os
  tape : w'.tape = w.tape
  output : w'.output = w.output
  size : w'.heap.size = w.heap.size
  other : ∀ k, k ≠ g → w'.heap[k]? = w.heap[k]?
theorem Turn.below {g B : Nat} {w0 w w' : World} (h : Turn g w w') (hb : Below B w0 w) (hB : B ≤ g) : Below B w0 w' :=
  ⟨h.os.trans hb.os, h.tape.trans hb.tape, h.output.trans hb.output, by rw [h.size]; exact hb.size, fun k hk => (h.other k (by omega)).trans (hb.block k hk)⟩
theorem turn_setRow (w : World) (g : Nat) (cs : Array Value) : Turn g w (w.setRow g cs) := ⟨rfl, rfl, rfl, by simp [World.setRow], fun k hk => setRow_other w g k cs hk⟩
theorem HasB.turn {g k : Nat} {w w' : World} {l : List Int} (h : HasB w k l) (ht : Turn g w w') (hk : k ≠ g) : HasB w' k l := (ht.other k hk).trans h
theorem C_turn {g n : Nat} {ad : Addr} {w w' : World} {l : List Int} (h : Kd.C (Kd.int .u8) w (some ad) n l) (ht : Turn g w w') (hk : ad.block ≠ g) : Kd.C (Kd.int .u8) w' (some ad) n l := by
  have hr := Kd.reads_of_C (d := (0 : Int)) h
  refine Kd.C_of_reads (d := 0) ⟨hr.1, hr.2.1, fun hn => ?_⟩
  obtain ⟨ad', e, hc⟩ := hr.2.2 hn
  injection e with e
  subst e
  refine ⟨ad, rfl, fun j hj => ?_⟩
  rw [← hc j hj]
  have hb : (ad.add j).block = ad.block := by unfold Addr.add; split <;> rfl
  simp only [World.cell?, hb, ht.other _ hk]
theorem size_cellsOf (l : List Int) : (cellsOf l).size = l.length := by simp [cellsOf]
section
variable {ops : Array Oper} {rest : List Oper} {o : Oper} {a : Act} {w : World} {Q : Exit → Act → World → Prop}
theorem loadB (hgd : o.guard = none) (x : Operand) (ho : o.op = .load 47 x) (g : Nat) (hx : a.eval x = .pointer (some ⟨g, 0, none⟩)) (l : List Int) (hl : l.length = 64) (hg : HasB w g l)
    (h : wpList Try.prog ops Q rest (a.put o.dst (.agg (cellsOf l))) w) : wpList Try.prog ops Q (o :: rest) a w :=
  wpList_load_row hgd 47 x ho g hx 47 _ (0, 0) _ hg und47 rfl (by rw [size_cellsOf, hl]; kernel_rfl) h
theorem storeB (hgd : o.guard = none) (x y : Operand) (ho : o.op = .store 47 x y) (g : Nat) (hx : a.eval x = .pointer (some ⟨g, 0, none⟩)) (l old : List Int) (hl : l.length = 64) (ho8 : old.length = 64) (hy : a.eval y = .agg (cellsOf l)) (hg : HasB w g old)
    (h : ∀ w', HasB w' g l → Turn g w w' → wpList Try.prog ops Q rest (a.put o.dst undef) w') : wpList Try.prog ops Q (o :: rest) a w :=
  wpList_store_row hgd 47 x y ho g _ hx hy 47 _ hg (by rw [size_cellsOf, hl]; kernel_rfl) (by rw [size_cellsOf, size_cellsOf, hl, ho8]) (by simp [cellsOf, Value.oneCell']) (h _ (setRow_heap w g _ _ 47 _ hg) (turn_setRow w g _))
theorem run_result1 {fn : Func} {p : Tmp} (h : fn.results = #[.cell p 47]) (tmps : Array Value) (w : World) (g : Nat) (l : List Int) (hl : l.length = 64) (hp : tmps.getD p undef = .pointer (some ⟨g, 0, none⟩)) (hg : HasB w g l) :
    (results fn tmps).run Try.prog w = .ok (.agg (cellsOf l)) w :=
  results_cell_row h tmps w g 47 _ (0, 0) _ hp hg und47 rfl (by rw [size_cellsOf, hl]; kernel_rfl)
theorem run_result2 {fn : Func} {p u : Tmp} (h : fn.results = #[.cell p 47, .tmp u]) (tmps : Array Value) (w : World) (g : Nat) (l : List Int) (hl : l.length = 64) (hp : tmps.getD p undef = .pointer (some ⟨g, 0, none⟩)) (hg : HasB w g l) :
    (results fn tmps).run Try.prog w = .ok (.tuple #[.agg (cellsOf l), tmps.getD u undef]) w :=
  results_ct h tmps w g 47 _ (0, 0) _ hp hg und47 rfl (by rw [size_cellsOf, hl]; kernel_rfl)
/-- Bytes laid over bytes. -/
def lay (L : List Int) (off : Nat) (cs : List Int) : List Int := L.take off ++ cs ++ L.drop (off + cs.length)
theorem lay_length (L : List Int) (off : Nat) (cs : List Int) (h : off + cs.length ≤ L.length) : (lay L off cs).length = L.length := by simp [lay]; omega
theorem copyB (hgd : o.guard = none) (d s : Operand) (ho : o.op = .call { callee := .builtin .copy, args := #[d, s], argTypes := #[23, 23] }) (g off dLen dCap : Nat) (sp : Option Addr) (sLen sCap : Nat)
    (hd : a.eval d = .slice (some ⟨g, off, none⟩) dLen dCap) (hs : a.eval s = .slice sp sLen sCap) (L S : List Int) (t : TypeId) (hg : w.heap[g]? = some (.cells (cellsOf L) t (0, 0))) (hS : Kd.C (Kd.int .u8) w sp sLen S)
    (n : Nat) (hn : n = Nat.min sLen dLen) (hfit : off + n ≤ L.length)
    (h : ∀ w', w'.heap[g]? = some (.cells (cellsOf (lay L off (S.take n))) t (0, 0)) → Turn g w w' → wpList Try.prog ops Q rest (a.put o.dst (.int .i64 n)) w') : wpList Try.prog ops Q (o :: rest) a w := by
  have hr := Kd.reads_of_C (d := (0 : Int)) hS
  have hsl : S.length = sLen := hr.1
  have hnl : (S.take n).length = n := by rw [List.length_take, hsl, hn]; exact Nat.min_eq_left (Nat.min_le_left _ _)
  by_cases h0 : n = 0
  · have hh := h w (by subst h0; simpa [lay] using hg) ⟨rfl, rfl, rfl, rfl, fun _ _ => rfl⟩
    subst h0
    exact wpList_copy_nothing hgd d s 23 23 ho 5 Try.underlying23 (by kernel_rfl) _ sp dLen dCap sLen sCap hd hs hn.symm hh
  · have hpos : 0 < sLen := by
      have : n ≤ sLen := by rw [hn]; exact Nat.min_le_left _ _
      omega
    obtain ⟨ad, rfl, hc⟩ := hr.2.2 hpos
    have hcl : ((S.take n).map (Value.int .u8)).length = n := by rw [List.length_map, hnl]
    refine wpList_copy_own hgd d s 23 23 ho 5 Try.underlying23 (by kernel_rfl) g off dLen dCap ad sLen sCap hd hs (cellsOf L) t hg ((S.take n).map (Value.int .u8)) (by rw [hcl, hn]) ?_ (by rw [hcl, size_cellsOf]; exact hfit) ?_ ?_
    · intro j v hv
      have hj : j < n := by
        rcases Nat.lt_or_ge j n with h | h
        · exact h
        · rw [List.getElem?_eq_none (by omega)] at hv; cases hv
      have hjs : j < sLen := by
        have : n ≤ sLen := by rw [hn]; exact Nat.min_le_left _ _
        omega
      rw [hc j hjs, ← hv]
      simp [hj, show j < S.length by omega]
    · intro v hv
      simp only [List.mem_map] at hv
      obtain ⟨x, _, rfl⟩ := hv
      rfl
    · rw [hcl]
      refine h _ ?_ (turn_setRow w g _)
      have e : ((cellsOf L).toList.take off ++ ((S.take n).map (Value.int .u8) ++ (cellsOf L).toList.drop (off + n))).toArray = cellsOf (lay L off (S.take n)) := by
        simp [cellsOf, lay, hnl, List.map_take, List.map_drop]
      rw [e]
      exact setRow_heap w g _ _ t _ hg
end
end Go.Proofs.Ytjenbffnpekbjaa.F
