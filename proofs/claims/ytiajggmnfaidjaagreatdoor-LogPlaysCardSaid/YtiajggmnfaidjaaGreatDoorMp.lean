/-
  Maps keyed by ints: what a map's block holds, as a function; look-up, store, clone.
-/
import Derived.Test.YtiajggmnfaidjaaGreatDoorMem
import Derived.Test.YtiajggmnfaidjaaGreatDoorMaps
import Derived.Maps.RangeRun
set_option linter.unusedVariables false
set_option linter.unusedSimpArgs false
set_option linter.unusedVariables false
set_option linter.unusedSimpArgs false
namespace Go.Proofs.YtiajggmnfaidjaaGreatDoor
open Go.RowKit

def keyIs (a : Int) (e : MapEntry) : Bool := match e.key with
  | .int .i64 x => x == a
  | _ => false
structure IntMap (es : Array MapEntry) (clk : Nat) (g : Int → Option Value) : Prop where
  keys : ∀ e ∈ es.toList, ∃ a, e.key = .int .i64 a
  find : ∀ a, (es.toList.find? (keyIs a)).map (·.val) = g a
  nodup : es.toList.Pairwise fun x y => x.key ≠ y.key
  born : (es.toList.map (·.born)).Nodup
  young : ∀ e ∈ es.toList, e.born < clk
def MapAt (w : World) (b : Nat) (g : Int → Option Value) : Prop := ∃ es clk, w.heap[b]? = some (.map es clk) ∧ IntMap es clk g

theorem IntMap.empty : IntMap #[] 0 (fun _ => none) := ⟨by simp, by simp, by simp, by simp, by simp⟩
theorem MapAt.lt {w : World} {b : Nat} {g : Int → Option Value} (h : MapAt w b g) : b < w.heap.size := by
  obtain ⟨es, clk, hb, _⟩ := h
  exact (Array.getElem?_eq_some_iff.1 hb).1
theorem MapAt.of_block {w w' : World} {b : Nat} {g : Int → Option Value} (h : MapAt w b g) (he : w'.heap[b]? = w.heap[b]?) : MapAt w' b g := by
  obtain ⟨es, clk, hb, hm⟩ := h
  exact ⟨es, clk, he.trans hb, hm⟩
theorem MapAt.grown {w w' : World} {b : Nat} {g : Int → Option Value} {row : Option Nat} (h : MapAt w b g) (hg : w.grownBy w' row) (hne : some b ≠ row) : MapAt w' b g := h.of_block (hg.block b h.lt hne)
theorem MapAt.bel {w w' : World} {b : Nat} {g : Int → Option Value} (h : MapAt w b g) (hg : Bel w w') : MapAt w' b g := h.of_block (hg.block b h.lt)
theorem MapAt.made (w : World) : MapAt (w.alloc (.map #[] 0)) w.heap.size (fun _ => none) := ⟨#[], 0, World.alloc_heap_new w _, .empty⟩

theorem findNow_int (a : Int) : ∀ (l : List MapEntry) (i : Nat), (∀ e ∈ l, ∃ x, e.key = .int .i64 x) →
    (∃ j e, l[j]? = some e ∧ l.find? (keyIs a) = some e ∧ e.key = .int .i64 a ∧ Instr.findNow (.int .i64) (.int .i64 a) l i = some (some (i + j, e.val))) ∨
    (l.find? (keyIs a) = none ∧ Instr.findNow (.int .i64) (.int .i64 a) l i = some none)
  | [], i, _ => .inr ⟨rfl, rfl⟩
  | e :: l, i, h => by
    obtain ⟨x, hx⟩ := h e (List.mem_cons_self ..)
    have ih := findNow_int a l (i + 1) (fun e' h' => h e' (List.mem_cons_of_mem _ h'))
    have hs : Instr.sameNow (.int .i64) (.int .i64 a) e.key = some (a == x) := by rw [hx]; simp [Instr.sameNow]
    have hk : keyIs a e = (x == a) := by unfold keyIs; rw [hx]
    by_cases hax : x = a
    · subst hax
      refine .inl ⟨0, e, rfl, ?_, hx, ?_⟩
      · simp [List.find?, hk]
      · simp [Instr.findNow, hs]
    · have h1 : (a == x) = false := by simp; exact fun e => hax e.symm
      have h2 : (x == a) = false := by simp [hax]
      rcases ih with ⟨j, e', hj, hf, hke, hn⟩ | ⟨hf, hn⟩
      · refine .inl ⟨j + 1, e', by simpa using hj, ?_, hke, ?_⟩
        · simp [List.find?, hk, h2, hf]
        · simp [Instr.findNow, hs, h1, hn]; omega
      · refine .inr ⟨?_, ?_⟩
        · simp only [List.find?, hk, h2, hf]
        · simp [Instr.findNow, hs, h1, hn]

section
variable {P : Program} {T K E : TypeId}
theorem run_lookup_map (hT : P.underlying T = some (.map K E)) (hK : P.underlying K = some (.int .i64)) {z : Value} {w : World} (hz : (zeroValue E).run P w = .ok z w) {b : Nat} {g : Int → Option Value} (hm : MapAt w b g) (a : Int) :
    (Instr.lookup T (.map (some b)) (.int .i64 a) false).run P w = .ok ((g a).getD z) w := by
  obtain ⟨es, clk, hb, him⟩ := hm
  have hgo : (getObj b).run P w = .ok (.map es clk) w := run_getObj_map hb
  have hck : ∀ e, (Instr.checkKey e 10000 K (.int .i64 a)).run P w = .ok () w := fun e => run_checkKey_int hK e a w
  have hfa := him.find a
  rcases findNow_int a es.toList 0 him.keys with ⟨j, e, hj, hf, hke, hn⟩ | ⟨hf, hn⟩
  · rw [hf] at hfa
    rw [← hfa]
    unfold Instr.lookup
    simp only [Sem.run_bind, run_underlying hT, Result.andThen_ok, hgo, Sem.run_pure, hck, run_findKey_int hK hn]
    simp
  · rw [hf] at hfa
    rw [← hfa]
    unfold Instr.lookup
    simp only [Sem.run_bind, run_underlying hT, Result.andThen_ok, hgo, Sem.run_pure, hck, run_findKey_int hK hn, hz]
    simp
theorem run_lookup_map_ok (hT : P.underlying T = some (.map K E)) (hK : P.underlying K = some (.int .i64)) {z : Value} {w : World} (hz : (zeroValue E).run P w = .ok z w) {b : Nat} {g : Int → Option Value} (hm : MapAt w b g) (a : Int) :
    (Instr.lookup T (.map (some b)) (.int .i64 a) true).run P w = .ok (.tuple #[(g a).getD z, .bool (g a).isSome]) w := by
  obtain ⟨es, clk, hb, him⟩ := hm
  have hgo : (getObj b).run P w = .ok (.map es clk) w := run_getObj_map hb
  have hck : ∀ e, (Instr.checkKey e 10000 K (.int .i64 a)).run P w = .ok () w := fun e => run_checkKey_int hK e a w
  have hfa := him.find a
  rcases findNow_int a es.toList 0 him.keys with ⟨j, e, hj, hf, hke, hn⟩ | ⟨hf, hn⟩
  · rw [hf] at hfa
    rw [← hfa]
    unfold Instr.lookup
    simp only [Sem.run_bind, run_underlying hT, Result.andThen_ok, hgo, Sem.run_pure, hck, run_findKey_int hK hn]
    simp
  · rw [hf] at hfa
    rw [← hfa]
    unfold Instr.lookup
    simp only [Sem.run_bind, run_underlying hT, Result.andThen_ok, hgo, Sem.run_pure, hck, run_findKey_int hK hn, hz]
    simp

theorem run_setObj_map {b : Nat} {es : Array MapEntry} {c : Nat} {w : World} (hb : w.heap[b]? = some (.map es c)) (o : Obj) : (setObj b o).run P w = .ok () (w.putObj b o) := by
  simp [setObj, Sem.run, hb, World.putObj]

def upd (g : Int → Option Value) (a : Int) (v : Value) : Int → Option Value := fun x => if x = a then some v else g x

theorem IntMap.push {es : Array MapEntry} {clk : Nat} {g : Int → Option Value} (h : IntMap es clk g) (a : Int) (v : Value) (hf : es.toList.find? (keyIs a) = none) :
    IntMap (es.push { key := .int .i64 a, val := v, born := clk }) (clk + 1) (upd g a v) := by
  have hno : ∀ e ∈ es.toList, e.key ≠ .int .i64 a := by
    intro e he hk
    have := List.find?_eq_none.1 hf e he
    simp [keyIs, hk] at this
  refine ⟨?_, ?_, ?_, ?_, ?_⟩
  · intro e he
    simp at he
    rcases he with he | rfl
    · exact h.keys e (by simpa using he)
    · exact ⟨a, rfl⟩
  · intro x
    rw [Array.toList_push, List.find?_append]
    by_cases hx : x = a
    · subst hx
      rw [hf]
      simp [keyIs, upd]
    · have h1 : [({ key := .int .i64 a, val := v, born := clk } : MapEntry)].find? (keyIs x) = none := by
        simp [keyIs]; exact fun e => hx e.symm
      rw [h1]
      simp only [Option.or_none, upd, if_neg hx]
      exact h.find x
  · rw [Array.toList_push, List.pairwise_append]
    refine ⟨h.nodup, by simp, fun x hx y hy => ?_⟩
    simp at hy
    subst hy
    exact hno x hx
  · rw [Array.toList_push, List.map_append, List.nodup_append]
    refine ⟨h.born, by simp, fun x hx y hy => ?_⟩
    obtain ⟨e, he, rfl⟩ := List.mem_map.1 hx
    simp at hy
    subst hy
    have := h.young e he
    omega
  · intro e he
    simp at he
    rcases he with he | rfl
    · have := h.young e (by simpa using he)
      omega
    · show clk < clk + 1
      omega

theorem find_modify (a : Int) (v : Value) (x : Int) : ∀ (l : List MapEntry) (j : Nat) (e : MapEntry), l[j]? = some e → e.key = .int .i64 a → l.Pairwise (fun x y => x.key ≠ y.key) →
    ((l.modify j fun e => { e with val := v }).find? (keyIs x)).map (·.val) = if x = a then some v else (l.find? (keyIs x)).map (·.val)
  | [], j, e, h, _, _ => by simp at h
  | d :: l, 0, e, h, hk, hp => by
    simp at h
    subst h
    simp only [List.modify_zero_cons, List.find?]
    have h1 : keyIs x { d with val := v } = (a == x) := by simp [keyIs, hk]
    have h2 : keyIs x d = (a == x) := by simp [keyIs, hk]
    rw [h1, h2]
    by_cases hx : x = a
    · subst hx; simp
    · have : (a == x) = false := by simp; exact fun e => hx e.symm
      rw [this]
      simp [hx]
  | d :: l, j + 1, e, h, hk, hp => by
    simp at h
    have hp' := List.pairwise_cons.1 hp
    have ih := find_modify a v x l j e h hk hp'.2
    simp only [List.modify_succ_cons, List.find?]
    have hd : d.key ≠ .int .i64 a := by
      have := hp'.1 e (List.mem_of_getElem? h)
      rw [hk] at this
      exact this
    by_cases hkx : keyIs x d = true
    · rw [hkx]
      have hxa : x ≠ a := by
        rintro rfl
        unfold keyIs at hkx
        split at hkx
        · rename_i y hy
          simp at hkx
          subst hkx
          exact hd hy
        · simp at hkx
      simp [hxa]
    · rw [Bool.not_eq_true] at hkx
      rw [hkx]
      exact ih

theorem IntMap.modify {es : Array MapEntry} {clk : Nat} {g : Int → Option Value} (h : IntMap es clk g) (a : Int) (v : Value) (j : Nat) (e : MapEntry) (hj : es.toList[j]? = some e) (hk : e.key = .int .i64 a) :
    IntMap (es.modify j fun e => { e with key := .int .i64 a, val := v }) clk (upd g a v) := by
  have hl : (es.modify j fun e => { e with key := .int .i64 a, val := v }).toList = es.toList.modify j fun e => { e with val := v } := by
    rw [Array.toList_modify]
    apply List.ext_getElem?
    intro i
    rw [List.getElem?_modify, List.getElem?_modify]
    by_cases hij : j = i
    · subst hij
      rw [hj]
      simp [hk]
    · simp [hij]
  have hkeys : ∀ (f : MapEntry → MapEntry), (∀ e, (f e).key = e.key) → (es.toList.modify j f).map (·.key) = es.toList.map (·.key) := by
    intro f hf
    apply List.ext_getElem?
    intro i
    rw [List.getElem?_map, List.getElem?_modify, List.getElem?_map]
    by_cases hij : j = i <;> cases es.toList[i]? <;> simp [hij, hf]
  have hborn : (es.toList.modify j fun e => { e with val := v }).map (·.born) = es.toList.map (·.born) := by
    apply List.ext_getElem?
    intro i
    rw [List.getElem?_map, List.getElem?_modify, List.getElem?_map]
    by_cases hij : j = i <;> cases es.toList[i]? <;> simp [hij]
  have hmem : ∀ e' ∈ es.toList.modify j (fun e => { e with val := v }), ∃ d ∈ es.toList, e'.key = d.key ∧ e'.born = d.born := by
    intro e' he'
    obtain ⟨i, hi⟩ := List.mem_iff_getElem?.1 he'
    rw [List.getElem?_modify] at hi
    cases hd : es.toList[i]? with
    | none => rw [hd] at hi; simp at hi
    | some d =>
      rw [hd] at hi
      simp at hi
      refine ⟨d, List.mem_of_getElem? hd, ?_⟩
      subst hi
      split <;> exact ⟨rfl, rfl⟩
  refine ⟨?_, ?_, ?_, ?_, ?_⟩
  · intro e' he'
    rw [hl] at he'
    obtain ⟨d, hd, h1, h2⟩ := hmem e' he'
    rw [h1]
    exact h.keys d hd
  · intro x
    rw [hl, find_modify a v x es.toList j e hj hk h.nodup]
    unfold upd
    split
    · rfl
    · exact h.find x
  · rw [hl]
    have := (List.pairwise_map (f := MapEntry.key) (R := fun x y => x ≠ y)).2 h.nodup
    rw [← hkeys (fun e => { e with val := v }) (fun _ => rfl)] at this
    exact List.pairwise_map.1 this
  · rw [hl, hborn]; exact h.born
  · intro e' he'
    rw [hl] at he'
    obtain ⟨d, hd, h1, h2⟩ := hmem e' he'
    rw [h2]
    exact h.young d hd

theorem run_mapUpdate_map (hT : P.underlying T = some (.map K E)) (hK : P.underlying K = some (.int .i64)) {w : World} {b : Nat} {g : Int → Option Value} (hm : MapAt w b g) (a : Int) (v : Value) :
    ∃ w', (Instr.mapUpdate T (.map (some b)) (.int .i64 a) v).run P w = .ok () w' ∧ MapAt w' b (upd g a v) ∧ w.grownBy w' (some b) := by
  obtain ⟨es, clk, hb, him⟩ := hm
  have hgo : (getObj b).run P w = .ok (.map es clk) w := run_getObj_map hb
  have hck : ∀ e, (Instr.checkKey e 10000 K (.int .i64 a)).run P w = .ok () w := fun e => run_checkKey_int hK e a w
  have hbl := (Array.getElem?_eq_some_iff.1 hb).1
  rcases findNow_int a es.toList 0 him.keys with ⟨j, e, hj, hf, hke, hn⟩ | ⟨hf, hn⟩
  · refine ⟨w.putObj b (.map (es.modify j fun e => { e with key := .int .i64 a, val := v }) clk), ?_, ⟨_, _, World.putObj_heap_same hbl, him.modify a v j e hj hke⟩, grownBy_putObj' w b _⟩
    have hk : (Instr.keyThatStays (((es[j]?).map (·.key)).getD (.int .i64 a)) (.int .i64 a)).run P w = .ok (.int .i64 a) w := by
      have : es[j]? = some e := by rw [← Array.getElem?_toList]; exact hj
      rw [this]
      simp [Instr.keyThatStays, hke, Instr.sameBits]
    unfold Instr.mapUpdate
    simp only [Sem.run_bind, run_underlying hT, Result.andThen_ok, hgo, hck, run_findKey_int hK hn, Nat.zero_add, hk, run_setObj_map hb]
  · refine ⟨w.putObj b (.map (es.push { key := .int .i64 a, val := v, born := clk }) (clk + 1)), ?_, ⟨_, _, World.putObj_heap_same hbl, him.push a v hf⟩, grownBy_putObj' w b _⟩
    unfold Instr.mapUpdate
    simp only [Sem.run_bind, run_underlying hT, Result.andThen_ok, hgo, hck, run_findKey_int hK hn, run_setObj_map hb]
end
end Go.Proofs.YtiajggmnfaidjaaGreatDoor
