/-
  Maps keyed by strings whose entries are known: an update that adds an entry to a map that has just been made, and look-ups.
-/
import Derived.Test.YtnajjhgbombboaaMaps
import Derived.StringKeys
set_option linter.unusedVariables false
set_option linter.unusedSimpArgs false
set_option linter.unusedVariables false
set_option linter.unusedSimpArgs false
namespace Go.Proofs.Ytnajjhgbombboaa
open Go.RowKit
section
variable {P : Program} {T K E : TypeId}
theorem run_checkKey_str (hK : P.underlying K = some .string) (e : Bool) (s : ByteArray) (w : World) : (Instr.checkKey e 10000 K (.string s)).run P w = .ok () w :=
  Go.MapKept.run_checkKey hK (by simp [Go.MapKept.IsKey]) e 9999
theorem run_mapUpdate_freshS (hT : P.underlying T = some (.map K E)) (hK : P.underlying K = some .string) {es : Array MapEntry} {s : ByteArray} (hf : Instr.findNow .string (.string s) es.toList 0 = some none) (c : Nat) (v : Value) (w : World) :
    (Instr.mapUpdate T (.map (some w.heap.size)) (.string s) v).run P (w.alloc (.map es c)) = .ok () (w.alloc (.map (es.push { key := .string s, val := v, born := c }) (c + 1))) := by
  have h1 : (w.alloc (.map es c)).heap[w.heap.size]? = some (.map es c) := by
    show (w.heap.push _)[w.heap.size]? = _
    simp
  have hfk := fun (w : World) => Go.MapKept.run_findKey (w := w) hK hf
  unfold Instr.mapUpdate
  simp only [Sem.run_bind, run_underlying hT, Result.andThen_ok, run_getObj_map h1, run_checkKey_str hK, hfk, run_setObj_fresh]
theorem run_lookup_strN (hT : P.underlying T = some (.map K E)) (hK : P.underlying K = some .string) {b c : Nat} {es : Array MapEntry} {s : ByteArray} {i : Nat} {v : Value} (hf : Instr.findNow .string (.string s) es.toList 0 = some (some (i, v))) {w : World} (hb : w.heap[b]? = some (.map es c)) :
    (Instr.lookup T (.map (some b)) (.string s) false).run P w = .ok v w := by
  have hg : (getObj b).run P w = .ok (.map es c) w := run_getObj_map hb
  have hfk := fun (w : World) => Go.MapKept.run_findKey (w := w) hK hf
  unfold Instr.lookup
  simp only [Sem.run_bind, run_underlying hT, Result.andThen_ok, hg, Sem.run_pure, run_checkKey_str hK, hfk]
  simp
end
end Go.Proofs.Ytnajjhgbombboaa
