/-
  errors.As at a log's fault; the log's number of an error; Append of what is too long.
-/
import Derived.Test.YthmigmiojifnkaaDoorLo
set_option linter.unusedVariables false
set_option linter.unusedSimpArgs false
set_option linter.unusedVariables false
set_option linter.unusedSimpArgs false
namespace Go.Proofs.YthmigmiojifnkaaDoor
open Go.RowKit Go.Extern.Stop Go.Stop Go.Extern

theorem asTypeOfL (v : Value) (w : World) : (ReflectliteType.typeOf #[.iface 142 v]).run Tryd.prog w = .ok (.iface 180 (.agg #[.pointer (some ⟨1, 142, none⟩)])) w := by kernel_rfl
theorem asAssignL (w : World) : (ReflectliteType.relation "AssignableTo" ReflectliteType.assignableTo #[.agg #[.pointer (some ⟨1, 142, none⟩)], .iface 180 (.agg #[.pointer (some ⟨1, 26, none⟩)])]).run Tryd.prog w = .ok (.bool false) w := by kernel_rfl
theorem asLacksAsL (v : Value) (xT : TypeId) (w : World) : (Instr.typeAssert (.iface 142 v) xT 192 true).run Tryd.prog w = .ok (.tuple #[.nilIface, .bool false]) w := run_typeAssert_lacksB Tryd.underlying192 (by kernel_rfl) (by kernel_rfl) v xT w
theorem asHasUnwrapL (v : Value) (xT : TypeId) (w : World) : (Instr.typeAssert (.iface 142 v) xT 185 true).run Tryd.prog w = .ok (.tuple #[.iface 142 v, .bool true]) w := run_typeAssert_hasB Tryd.underlying185 (by kernel_rfl) v xT w
theorem asMUnwrapL (v : Value) (w : World) : (Go.method 342 142 v "Unwrap").run Tryd.prog w = .ok (150, v) w := by kernel_rfl
set_option maxRecDepth 100000 in
set_option maxHeartbeats 1000000 in
theorem asIn_lfault (at_ k : Int) (t b : Addr) (x old : Value) (w : World) (hb : w.cell? b = some (.pointer (some t))) (ht : w.cell? t = some old) (hf : w.frozen? t = false) :
    Calls Tryd.prog 99 #[.iface 142 (.agg #[.int .i64 at_, .int .i64 k]), x, .agg #[.pointer (some ⟨1, 144, none⟩), .pointer (some b), .int .u64 150], .iface 180 (.agg #[.pointer (some ⟨1, 26, none⟩)])] w (AsPost t k w) := by
  have hbl : b.block < w.heap.size := World.block_lt_of_cell? (w := w) (a := b) hb
  have htl : t.block < w.heap.size := World.block_lt_of_cell? (w := w) (a := t) ht
  have g1 := asTypeOfL (.agg #[.int .i64 at_, .int .i64 k])
  have g2 := asAssignL
  have g3 := asLacksAsL (.agg #[.int .i64 at_, .int .i64 k])
  have g4 := asHasUnwrapL (.agg #[.int .i64 at_, .int .i64 k])
  have g5 := asMUnwrapL (.agg #[.int .i64 at_, .int .i64 k])
  have h1 := @run_callFunc_extern Tryd.prog 90 _ ReflectliteType.typeOf Tryd.func90 (by kernel_rfl) (by kernel_rfl) (by kernel_rfl) (by kernel_rfl)
  have h2 := @run_callFunc_extern Tryd.prog 155 _ (ReflectliteType.relation "AssignableTo" ReflectliteType.assignableTo) Tryd.func155 (by kernel_rfl) (by kernel_rfl) (by kernel_rfl) (by kernel_rfl)
  have h3 := @run_callFunc_extern Tryd.prog 107 _ (ReflectliteValue.method (ReflectliteValue.valueError "reflectlite.Value.Elem" 0) ReflectliteValue.elem) Tryd.func107 (by kernel_rfl) (by kernel_rfl) (by kernel_rfl) (by kernel_rfl)
  have h4 := @run_callFunc_extern Tryd.prog 96 _ (fun args => ReflectliteValue.unpack (args.getD 0 (.tuple #[]))) Tryd.func96 (by kernel_rfl) (by kernel_rfl) (by kernel_rfl) (by kernel_rfl)
  have h5 := @run_callFunc_extern Tryd.prog 108 _ ReflectliteValue.set Tryd.func108 (by kernel_rfl) (by kernel_rfl) (by kernel_rfl) (by kernel_rfl)
  have f1 := asTypeOf
  have f2 := asMAssign
  have f3 := asAssign
  have f4 := asValueOfE
  obtain ⟨W, hW⟩ : ∃ W, W = (w.alloc (.cells #[.pointer (some ⟨1, 144, none⟩), .pointer (some b), .int .u64 150] 167)).alloc (.cells #[.int .i64 at_, .int .i64 k] 142) := ⟨_, rfl⟩
  have hWs : W.heap.size = w.heap.size + 2 := by rw [hW]; simp
  have hWb : W.cell? b = some (.pointer (some t)) := by rw [hW, World.cell?_alloc_lt _ _ b (by simp; omega), World.cell?_alloc_lt _ _ b hbl]; exact hb
  have hWt : W.cell? t = some old := by rw [hW, World.cell?_alloc_lt _ _ t (by simp; omega), World.cell?_alloc_lt _ _ t htl]; exact ht
  have hWf : W.frozen? t = false := by rw [hW, World.frozen?_alloc_old _ _ t (by simp; omega), World.frozen?_alloc_old _ _ t (Nat.ne_of_lt htl)]; exact hf
  have el := asElemV b t W hWb
  have st := asSet t ⟨w.heap.size + 2, 0, none⟩ k old (W.alloc (.cells #[.int .i64 k] 26))
    (by rw [World.cell?_alloc_at _ _ _ _ (by simp [hWs])]; rfl)
    (by rw [World.cell?_alloc_lt _ _ t (by omega)]; exact hWt)
    (by rw [World.frozen?_alloc_old _ _ t (by omega)]; exact hWf)
  have hfin : AsPost t k w (.returned (.bool true)) ((W.alloc (.cells #[.int .i64 k] 26)).setCell t (.int .i64 k)) := by
    refine ⟨rfl, ?_, ?_, ?_⟩
    · rw [hW]
      exact grown_trans (grown_alloc (grown_alloc (grown_alloc (grown_refl _ _) _) _) _) (grown_setCell _ _ _)
    · exact World.cell?_setCell_same _ _ _ (u := old) (by rw [World.cell?_alloc_lt _ _ t (by omega)]; exact hWt)
    · rw [World.frozen?_setCell, World.frozen?_alloc_old _ _ t (by omega)]; exact hWf
  rw [hW] at el st hfin
  clear hWs hWb hWt hWf hW
  have HFIN := Lib.hid hfin
  clear hfin
  go_enter Tryd.func99, Tryd.ntmps99
  go_wp2
  refine wp_loop_rounds 2 ?_
  rw [rounds_succ]
  go_wp2
  rw [rounds_succ]
  go_wp2
  go_ret
  exact HFIN.out
theorem lnumber_fault (at_ k : Int) (w : World) (hg : ErrType w) : Calls Tryd.prog 55 #[.iface 142 (.agg #[.int .i64 at_, .int .i64 k])] w fun e w' => e = .returned (.int .i64 k) ∧ Bel w w' := by
  have hba : Bel w (w.alloc (.cells #[.int .i64 0] 26)) := (Bel.refl w).alloc _
  have H := Lib.hid (as_of 142 (.agg #[.int .i64 at_, .int .i64 k]) k ⟨w.heap.size, 0, none⟩ (.int .i64 0) (w.alloc (.cells #[.int .i64 0] 26)) (hg.bel hba) (by simp) (by simp)
    (fun W b hW h1 h2 h3 => asIn_lfault at_ k ⟨w.heap.size, 0, none⟩ b _ _ W h1 h2 h3))
  have HBA := Lib.hid hba
  clear hg hba
  go_enter Tryd.func55, Tryd.ntmps55
  go_wp2_with fail
  refine H.out.mono ?_
  rintro e w1 ⟨rfl, hg1, hc1, hf1⟩
  have HG : Hid (Bel w w1) := Below.grown HBA.out hg1 (by simp) (fun j e => by cases e; exact Nat.le_refl _)
  clear hg1
  go_wp2
  go_ret
  exact ⟨rfl, HG.out⟩
theorem lappend_long {w : World} {bl bd : Nat} {m : DM} {file en tn : Int} {fd : Nat → Prop} (h : LogIs w bl bd m file en tn fd) (s : List UInt8) (A : Option Addr) (cap : Nat) (hs : 60000 < s.length) :
    Calls Tryd.prog 54 #[.pointer (some ⟨bl, 0, none⟩), .slice A s.length cap] w fun e w' => e = .returned (.iface 142 (.agg #[.int .i64 en, .int .i64 3])) ∧ Bel w w' := by
  have HN := Lib.hid (lnone_any h)
  have HREC := Lib.hid (record_long s A cap hs w)
  obtain ⟨c0, c1, c2, c3, hf⟩ := h.cells
  clear h
  generalize s.length = n at *
  go_enter Tryd.func54, Tryd.ntmps54
  go_wp2_with (first | (go_at_call 56; refine HN.out.mono ?_; rintro e w' ⟨rfl, rfl⟩) | (go_at_call 18; refine HREC.out.mono ?_; rintro e w1 ⟨rfl, rfl⟩))
  go_ret
  exact ⟨rfl, Bel.refl _⟩
theorem lAppend_long {w : World} {bl bd : Nat} {m : DM} {file en tn : Int} {fd : Nat → Prop} (h : LogIs w bl bd m file en tn fd) (hg : ErrType w) (s : List UInt8) (A : Option Addr) (cap : Nat) (hs : 60000 < s.length) :
    Calls Tryd.prog 21 #[.pointer (some ⟨bl, 0, none⟩), .slice A s.length cap] w fun e w' => e = .returned (.tuple #[.int .i64 0, .int .i64 3]) ∧ Bel w w' := by
  have HE := Lib.hid (lend_any h)
  have HA := Lib.hid (lappend_long h s A cap hs)
  have HG := Lib.hid hg
  clear h hg
  generalize s.length = n at *
  go_enter Tryd.func21, Tryd.ntmps21
  go_wp2_with (first | (go_at_call 23; refine HE.out.mono ?_; rintro e w' ⟨rfl, rfl⟩) | (go_at_call 54; refine HA.out.mono ?_; rintro e w1 ⟨rfl, hb⟩; have HB := Lib.hid hb; clear hb) | (go_at_call 55; refine (lnumber_fault _ _ _ (HG.out.bel HB.out)).mono ?_; rintro e w2 ⟨rfl, hb2⟩))
  go_ret2
  exact ⟨rfl, HB.out.then_ hb2⟩
end Go.Proofs.YthmigmiojifnkaaDoor
