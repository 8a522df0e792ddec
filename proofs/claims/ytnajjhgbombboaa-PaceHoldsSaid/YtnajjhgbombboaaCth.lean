/-
  Package pace: the heartbeat in a row's event.
-/
import Derived.Test.YtnajjhgbombboaaCtf
import Derived.Test.YtnajjhgbombboaaPca
import Derived.Lib.ConvBytes
set_option linter.unusedVariables false
set_option linter.unusedSimpArgs false
set_option linter.unusedVariables false
set_option linter.unusedSimpArgs false
namespace Go.Proofs.Ytnajjhgbombboaa
open Go.RowKit

def tLog : ByteArray := ⟨#[116, 95, 108, 111, 103]⟩
def evV (u : Value) : Value := .agg #[.int .i64 1, .string tLog, .slice none 0 0, .slice none 0 0, .slice none 0 0, .slice none 0 0, u, .slice none 0 0]
theorem bytesWorld_bel (w : World) (e : TypeId) (s : ByteArray) : Bel w (Lib.bytesWorld w e s) := by
  unfold Lib.bytesWorld
  exact ⟨rfl, rfl, rfl, by rw [show ((w.drew.alloc (.cells (Lib.bytesCells w e s) e)).freeze ⟨w.heap.size, (Lib.bytesCells w e s).size, none⟩ 1) = Lib.bytesWorld w e s from rfl, Lib.bytesWorld_size]; omega, fun i hi => Lib.bytesWorld_at_old w e s i hi⟩
theorem bytesWorld_reads (w : World) (s : List UInt8) : Reads (Lib.bytesWorld w 5 ⟨s.toArray⟩) (Lib.bytesWorld w 5 ⟨s.toArray⟩).heap.size 1 (some ⟨w.heap.size, 0, none⟩) s.length (s.map bv) := by
  refine ⟨by simp, fun _ => ⟨_, rfl, by rw [Lib.bytesWorld_size]; simp, fun j u hu => ?_⟩⟩
  have hj : j < s.length := by have := (List.getElem?_eq_some_iff.1 hu).1; simpa using this
  have e : (Addr.add ⟨w.heap.size, 0, none⟩ j) = ⟨w.heap.size, j, none⟩ := by unfold Addr.add; split <;> simp_all
  rw [e, Lib.bytesWorld_cell w 5 ⟨s.toArray⟩ j (by simpa [ByteArray.size] using hj)]
  rw [List.getElem?_map, List.getElem?_eq_getElem hj] at hu
  simp only [Option.map_some, Option.some.injEq] at hu
  subst hu
  simp [bv, List.getD, hj]
set_option maxRecDepth 100000 in
set_option maxHeartbeats 4000000 in
theorem pcRead_no (u : Value) (k s : ByteArray) (w : World) (hr : RowIs w u k s) (hk : k ≠ kBeat) : Calls Try.prog 12 #[.string tLog, evV u] w fun e w' => e = .returned (.tuple #[.int .i64 0, .bool false]) ∧ Bel w w' := by
  obtain ⟨b, rfl, hB⟩ := hr
  have hbl := hB.lt
  have q0 := hB.cell 0
  have q3 := hB.cell 3
  have q4 := hB.cell 4
  have q7 := hB.cell 7
  simp only [rowC, List.getElem?_toArray, List.getElem?_cons_zero, List.getElem?_cons_succ] at q0 q3 q4 q7
  have hl1 : k.toList ≠ [98, 101, 97, 116] := fun e => hk (WideShapes.bytes_inj (by
    rw [ByteArray.toList_eq] at e
    exact e))
  have hl2 : (k.toList == [98, 101, 97, 116]) = false := by simpa using hl1
  clear hl1
  clear hB hk
  unfold evV tLog
  go_enter Try.func12, Try.ntmps12
  go_wp2
  all_goals
    go_ret2
    exact ⟨rfl, by (repeat (first | exact Below.refl _ _ | assumption | exact Bel.refl _ | refine Bel.alloc ?_ _ | refine Bel.drew ?_ | refine Bel.drewN ?_ _ | refine Bel.then_ ?_ (by assumption) | refine Bel.setCell ?_ (by first | (simp; done) | (simp; omega)) _))⟩
set_option maxRecDepth 100000 in
set_option maxHeartbeats 4000000 in
theorem pcRead_beat (u : Value) (bt : Int) (w : World) (hr : RowIs w u kBeat (bt8 bt)) (h0 : 0 ≤ bt) (h1 : bt ≤ 1099511627776) : Calls Try.prog 12 #[.string tLog, evV u] w fun e w' => e = .returned (.tuple #[.int .i64 bt, .bool true]) ∧ Bel w w' := by
  obtain ⟨b, rfl, hB⟩ := hr
  have hbl := hB.lt
  have q0 := hB.cell 0
  have q3 := hB.cell 3
  have q4 := hB.cell 4
  have q7 := hB.cell 7
  simp only [rowC, List.getElem?_toArray, List.getElem?_cons_zero, List.getElem?_cons_succ] at q0 q3 q4 q7
  obtain ⟨n, rfl⟩ : ∃ n : Nat, bt = n := ⟨bt.toNat, by omega⟩
  have hn : n ≤ 1099511627776 := by omega
  have hsz : (bt8 (n : Int)).size = 8 := by simp [bt8, ByteArray.size, beN_length]
  have hcv := fun w : World => Lib.run_convert_string_bytes (P := Try.prog) w 9 87 5 (bt8 (n : Int)) Try.underlying9 Try.underlying87 Try.underlying5
  rw [hsz] at hcv
  have hnum : numN (beN n 8) = n := beN_num n 8 (by rw [show (256 : Nat) ^ 8 = 18446744073709551616 from rfl]; omega)
  have hrd : ∀ (W : World) (g c : Nat), W.heap.size = g → Calls Try.prog 22 #[.slice (some ⟨g, 0, none⟩) 8 c] (Lib.bytesWorld W 5 (bt8 (n : Int))) fun e w' => e = .returned (.tuple #[.int .u64 n, .int .i64 0]) ∧ (Lib.bytesWorld W 5 (bt8 (n : Int))) = w' := by
    intro W g c hg
    subst hg
    have := readFixed_any (beN n 8) (some ⟨W.heap.size, 0, none⟩) c (by simp [beN_length]) (by simp [beN_length]) _ (bytesWorld_reads W (beN n 8))
    rw [beN_length, hnum] at this
    exact this
  clear hB h0 h1
  unfold kBeat at q3
  unfold evV tLog
  go_enter Try.func12, Try.ntmps12
  go_wp2_with fail
  refine (hrd _ _ _ (by simp)).mono ?_
  rintro e1 w1 ⟨rfl, rfl⟩
  have hb1 := (((Bel.refl w).alloc (.cells #[.int .i64 1, .string ⟨#[116, 95, 108, 111, 103]⟩, .slice none 0 0, .slice none 0 0, .slice none 0 0, .slice none 0 0, .slice (some ⟨b, 0, none⟩) 2 2, .slice none 0 0] 58))).then_ (bytesWorld_bel _ 5 (bt8 (n : Int)))
  generalize Lib.bytesWorld _ _ _ = W at *
  go_wp2
  go_ret2
  exact ⟨rfl, hb1⟩
end Go.Proofs.Ytnajjhgbombboaa
