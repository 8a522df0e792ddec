/-
  Maps keyed by integers whose entries are known: an update that adds an entry to a map that has just been made, and look-ups.
-/
import Derived.Test.YtiajggmnfaidjaaGreatDoorKit
set_option linter.unusedVariables false
set_option linter.unusedSimpArgs false
set_option linter.unusedVariables false
set_option linter.unusedSimpArgs false
namespace Go.Proofs.YtiajggmnfaidjaaGreatDoor
open Go.RowKit
section
variable {P : Program} {T K E : TypeId} {k : IntKind}
theorem run_checkKey_int (hK : P.underlying K = some (.int k)) (e : Bool) (a : Int) (w : World) : (Instr.checkKey e 10000 K (.int k a)).run P w = .ok () w := by
  unfold Instr.checkKey
  simp [run_underlying hK]
theorem run_findKey_int (hK : P.underlying K = some (.int k)) {a : Int} {es : List MapEntry} {r : Option (Nat × Value)} (hf : Instr.findNow (.int k) (.int k a) es 0 = some r) (w : World) : (Instr.findKey K (.int k a) es).run P w = .ok r w := by
  unfold Instr.findKey
  simp [run_underlying hK, hf]
theorem run_getObj_map {b c : Nat} {es : Array MapEntry} {w : World} (hb : w.heap[b]? = some (.map es c)) : (getObj b).run P w = .ok (.map es c) w := by
  unfold getObj
  simp only [Sem.run]
  rw [hb]
theorem run_setObj_fresh {es : Array MapEntry} {c : Nat} {w : World} (o : Obj) : (setObj w.heap.size o).run P (w.alloc (.map es c)) = .ok () (w.alloc o) := by
  have h1 : (w.alloc (.map es c)).heap[w.heap.size]? = some (.map es c) := by
    show (w.heap.push _)[w.heap.size]? = _
    simp
  unfold setObj
  simp only [Sem.run]
  rw [h1]
  have h2 : (w.alloc (.map es c)).heap.setIfInBounds w.heap.size o = (w.alloc o).heap := by
    show (w.heap.push _).setIfInBounds w.heap.size o = w.heap.push o
    apply Array.ext
    · simp
    · intro i h1 h2
      simp only [Array.size_setIfInBounds, Array.size_push] at h1
      by_cases hi : i = w.heap.size
      · subst hi; simp
      · rw [Array.getElem_setIfInBounds_ne (by simpa using h1) (fun e => hi e.symm), Array.getElem_push_lt (by omega), Array.getElem_push_lt (by omega)]
  show Result.ok () { (w.alloc (.map es c)) with heap := (w.alloc (.map es c)).heap.setIfInBounds w.heap.size o } = _
  rw [h2]
  rfl
theorem run_mapUpdate_fresh (hT : P.underlying T = some (.map K E)) (hK : P.underlying K = some (.int k)) {es : Array MapEntry} {a : Int} (hf : Instr.findNow (.int k) (.int k a) es.toList 0 = some none) (c : Nat) (v : Value) (w : World) :
    (Instr.mapUpdate T (.map (some w.heap.size)) (.int k a) v).run P (w.alloc (.map es c)) = .ok () (w.alloc (.map (es.push { key := .int k a, val := v, born := c }) (c + 1))) := by
  have h1 : (w.alloc (.map es c)).heap[w.heap.size]? = some (.map es c) := by
    show (w.heap.push _)[w.heap.size]? = _
    simp
  unfold Instr.mapUpdate
  simp only [Sem.run_bind, run_underlying hT, Result.andThen_ok, run_getObj_map h1, run_checkKey_int hK, run_findKey_int hK hf, run_setObj_fresh]
theorem run_lookup_int_ok (hT : P.underlying T = some (.map K E)) (hK : P.underlying K = some (.int k)) {b c : Nat} {es : Array MapEntry} {a : Int} {i : Nat} {v : Value} (hf : Instr.findNow (.int k) (.int k a) es.toList 0 = some (some (i, v))) {w : World} (hb : w.heap[b]? = some (.map es c)) :
    (Instr.lookup T (.map (some b)) (.int k a) true).run P w = .ok (.tuple #[v, .bool true]) w := by
  have hg : (getObj b).run P w = .ok (.map es c) w := run_getObj_map hb
  have hck : ∀ e, (Instr.checkKey e 10000 K (.int k a)).run P w = .ok () w := fun e => run_checkKey_int hK e a w
  unfold Instr.lookup
  simp only [Sem.run_bind, run_underlying hT, Result.andThen_ok, hg, Sem.run_pure, hck, run_findKey_int hK hf]
  simp
theorem run_lookup_int (hT : P.underlying T = some (.map K E)) (hK : P.underlying K = some (.int k)) {b c : Nat} {es : Array MapEntry} {a : Int} {i : Nat} {v : Value} (hf : Instr.findNow (.int k) (.int k a) es.toList 0 = some (some (i, v))) {w : World} (hb : w.heap[b]? = some (.map es c)) :
    (Instr.lookup T (.map (some b)) (.int k a) false).run P w = .ok v w := by
  have hg : (getObj b).run P w = .ok (.map es c) w := run_getObj_map hb
  have hck : ∀ e, (Instr.checkKey e 10000 K (.int k a)).run P w = .ok () w := fun e => run_checkKey_int hK e a w
  unfold Instr.lookup
  simp only [Sem.run_bind, run_underlying hT, Result.andThen_ok, hg, Sem.run_pure, hck, run_findKey_int hK hf]
  simp
theorem run_lookup_int_none (hT : P.underlying T = some (.map K E)) (hK : P.underlying K = some (.int k)) {b c : Nat} {es : Array MapEntry} {a : Int} {z : Value} (hf : Instr.findNow (.int k) (.int k a) es.toList 0 = some none) {w : World} (hz : (zeroValue E).run P w = .ok z w) (hb : w.heap[b]? = some (.map es c)) :
    (Instr.lookup T (.map (some b)) (.int k a) true).run P w = .ok (.tuple #[z, .bool false]) w := by
  have hg : (getObj b).run P w = .ok (.map es c) w := run_getObj_map hb
  have hck : ∀ e, (Instr.checkKey e 10000 K (.int k a)).run P w = .ok () w := fun e => run_checkKey_int hK e a w
  unfold Instr.lookup
  simp only [Sem.run_bind, run_underlying hT, Result.andThen_ok, hg, Sem.run_pure, hck, run_findKey_int hK hf, hz]
  simp
end
end Go.Proofs.YtiajggmnfaidjaaGreatDoor
