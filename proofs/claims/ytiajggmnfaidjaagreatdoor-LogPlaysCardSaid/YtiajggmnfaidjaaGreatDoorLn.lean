/-
  errors.As at a log's fault; the log's number of an error; Append of what is too long.
-/
import Derived.Test.YtiajggmnfaidjaaGreatDoorLo
set_option linter.unusedVariables false
set_option linter.unusedSimpArgs false
set_option linter.unusedVariables false
set_option linter.unusedSimpArgs false
namespace Go.Proofs.YtiajggmnfaidjaaGreatDoor
open Go.RowKit Go.Extern.Stop Go.Stop Go.Extern

theorem asTypeOfL (v : Value) (w : World) : (ReflectliteType.typeOf #[.iface 121 v]).run Tryz.prog w = .ok (.iface 155 (.agg #[.pointer (some ⟨1, 121, none⟩)])) w := by kernel_rfl
theorem asAssignL (w : World) : (ReflectliteType.relation "AssignableTo" ReflectliteType.assignableTo #[.agg #[.pointer (some ⟨1, 121, none⟩)], .iface 155 (.agg #[.pointer (some ⟨1, 26, none⟩)])]).run Tryz.prog w = .ok (.bool false) w := by kernel_rfl
theorem asLacksAsL (v : Value) (xT : TypeId) (w : World) : (Instr.typeAssert (.iface 121 v) xT 169 true).run Tryz.prog w = .ok (.tuple #[.nilIface, .bool false]) w := run_typeAssert_lacksB Tryz.underlying169 (by kernel_rfl) (by kernel_rfl) v xT w
theorem asHasUnwrapL (v : Value) (xT : TypeId) (w : World) : (Instr.typeAssert (.iface 121 v) xT 160 true).run Tryz.prog w = .ok (.tuple #[.iface 121 v, .bool true]) w := run_typeAssert_hasB Tryz.underlying160 (by kernel_rfl) v xT w
theorem asMUnwrapL (v : Value) (w : World) : (Go.method 300 121 v "Unwrap").run Tryz.prog w = .ok (108, v) w := by kernel_rfl
set_option maxRecDepth 100000 in
set_option maxHeartbeats 1000000 in
theorem asIn_lfault (at_ k : Int) (t b : Addr) (x old : Value) (w : World) (hb : w.cell? b = some (.pointer (some t))) (ht : w.cell? t = some old) (hf : w.frozen? t = false) :
    Calls Tryz.prog 78 #[.iface 121 (.agg #[.int .i64 at_, .int .i64 k]), x, .agg #[.pointer (some ⟨1, 124, none⟩), .pointer (some b), .int .u64 150], .iface 155 (.agg #[.pointer (some ⟨1, 26, none⟩)])] w (AsPost t k w) := by
  have hbl : b.block < w.heap.size := World.block_lt_of_cell? (w := w) (a := b) hb
  have htl : t.block < w.heap.size := World.block_lt_of_cell? (w := w) (a := t) ht
  have g1 := asTypeOfL (.agg #[.int .i64 at_, .int .i64 k])
  have g2 := asAssignL
  have g3 := asLacksAsL (.agg #[.int .i64 at_, .int .i64 k])
  have g4 := asHasUnwrapL (.agg #[.int .i64 at_, .int .i64 k])
  have g5 := asMUnwrapL (.agg #[.int .i64 at_, .int .i64 k])
  have h1 := @run_callFunc_extern Tryz.prog 64 _ ReflectliteType.typeOf Tryz.func64 (by kernel_rfl) (by kernel_rfl) (by kernel_rfl) (by kernel_rfl)
  have h2 := @run_callFunc_extern Tryz.prog 113 _ (ReflectliteType.relation "AssignableTo" ReflectliteType.assignableTo) Tryz.func113 (by kernel_rfl) (by kernel_rfl) (by kernel_rfl) (by kernel_rfl)
  have h3 := @run_callFunc_extern Tryz.prog 85 _ (ReflectliteValue.method (ReflectliteValue.valueError "reflectlite.Value.Elem" 0) ReflectliteValue.elem) Tryz.func85 (by kernel_rfl) (by kernel_rfl) (by kernel_rfl) (by kernel_rfl)
  have h4 := @run_callFunc_extern Tryz.prog 75 _ (fun args => ReflectliteValue.unpack (args.getD 0 (.tuple #[]))) Tryz.func75 (by kernel_rfl) (by kernel_rfl) (by kernel_rfl) (by kernel_rfl)
  have h5 := @run_callFunc_extern Tryz.prog 86 _ ReflectliteValue.set Tryz.func86 (by kernel_rfl) (by kernel_rfl) (by kernel_rfl) (by kernel_rfl)
  have f1 := asTypeOf
  have f2 := asMAssign
  have f3 := asAssign
  have f4 := asValueOfE
  obtain ⟨W, hW⟩ : ∃ W, W = (w.alloc (.cells #[.pointer (some ⟨1, 124, none⟩), .pointer (some b), .int .u64 150] 145)).alloc (.cells #[.int .i64 at_, .int .i64 k] 121) := ⟨_, rfl⟩
  have hWs : W.heap.size = w.heap.size + 2 := by rw [hW]; simp
  have hWb : W.cell? b = some (.pointer (some t)) := by rw [hW, World.cell?_alloc_lt _ _ b (by simp; omega), World.cell?_alloc_lt _ _ b hbl]; exact hb
  have hWt : W.cell? t = some old := by rw [hW, World.cell?_alloc_lt _ _ t (by simp; omega), World.cell?_alloc_lt _ _ t htl]; exact ht
  have hWf : W.frozen? t = false := by rw [hW, World.frozen?_alloc_old _ _ t (by simp; omega), World.frozen?_alloc_old _ _ t (Nat.ne_of_lt htl)]; exact hf
  have el := asElemV b t W hWb
  have st := asSet t ⟨w.heap.size + 2, 0, none⟩ k old (W.alloc (.cells #[.int .i64 k] 26))
    (by rw [World.cell?_alloc_at _ _ _ _ (by simp [hWs])]; rfl)
    (by rw [World.cell?_alloc_lt _ _ t (by omega)]; exact hWt)
    (by rw [World.frozen?_alloc_old _ _ t (by omega)]; exact hWf)
  have hfin : AsPost t k w (.returned (.bool true)) ((W.alloc (.cells #[.int .i64 k] 26)).setCell t (.int .i64 k)) := by
    refine ⟨rfl, ?_, ?_, ?_⟩
    · rw [hW]
      exact grown_trans (grown_alloc (grown_alloc (grown_alloc (grown_refl _ _) _) _) _) (grown_setCell _ _ _)
    · exact World.cell?_setCell_same _ _ _ (u := old) (by rw [World.cell?_alloc_lt _ _ t (by omega)]; exact hWt)
    · rw [World.frozen?_setCell, World.frozen?_alloc_old _ _ t (by omega)]; exact hWf
  rw [hW] at el st hfin
  clear hWs hWb hWt hWf hW
  have HFIN := Lib.hid hfin
  clear hfin
  go_enter Tryz.func78, Tryz.ntmps78
  go_wp2
  refine wp_loop_rounds 2 ?_
  rw [rounds_succ]
  go_wp2
  rw [rounds_succ]
  go_wp2
  go_ret
  exact HFIN.out
theorem lnumber_fault (at_ k : Int) (w : World) (hg : ErrType w) : Calls Tryz.prog 37 #[.iface 121 (.agg #[.int .i64 at_, .int .i64 k])] w fun e w' => e = .returned (.int .i64 k) ∧ Bel w w' := by
  have hba : Bel w (w.alloc (.cells #[.int .i64 0] 26)) := (Bel.refl w).alloc _
  have H := Lib.hid (as_of 121 (.agg #[.int .i64 at_, .int .i64 k]) k ⟨w.heap.size, 0, none⟩ (.int .i64 0) (w.alloc (.cells #[.int .i64 0] 26)) (hg.bel hba) (by simp) (by simp)
    (fun W b hW h1 h2 h3 => asIn_lfault at_ k ⟨w.heap.size, 0, none⟩ b _ _ W h1 h2 h3))
  have HBA := Lib.hid hba
  clear hg hba
  go_enter Tryz.func37, Tryz.ntmps37
  go_wp2_with fail
  refine H.out.mono ?_
  rintro e w1 ⟨rfl, hg1, hc1, hf1⟩
  have HG : Hid (Bel w w1) := Below.grown HBA.out hg1 (by simp) (fun j e => by cases e; exact Nat.le_refl _)
  clear hg1
  go_wp2
  go_ret
  exact ⟨rfl, HG.out⟩
theorem lappend_long {w : World} {bl bd : Nat} {m : DM} {file en tn : Int} {fd : Nat → Prop} (h : LogIs w bl bd m file en tn fd) (s : List UInt8) (A : Option Addr) (cap : Nat) (hs : 60000 < s.length) :
    Calls Tryz.prog 36 #[.pointer (some ⟨bl, 0, none⟩), .slice A s.length cap] w fun e w' => e = .returned (.iface 121 (.agg #[.int .i64 en, .int .i64 3])) ∧ Bel w w' := by
  have HN := Lib.hid (lnone_any h)
  have HREC := Lib.hid (record_long s A cap hs w)
  obtain ⟨c0, c1, c2, c3, hf⟩ := h.cells
  clear h
  generalize s.length = n at *
  go_enter Tryz.func36, Tryz.ntmps36
  go_wp2_with (first | (go_at_call 38; refine HN.out.mono ?_; rintro e w' ⟨rfl, rfl⟩) | (go_at_call 13; refine HREC.out.mono ?_; rintro e w1 ⟨rfl, rfl⟩))
  go_ret
  exact ⟨rfl, Bel.refl _⟩
theorem lAppend_long {w : World} {bl bd : Nat} {m : DM} {file en tn : Int} {fd : Nat → Prop} (h : LogIs w bl bd m file en tn fd) (hg : ErrType w) (s : List UInt8) (A : Option Addr) (cap : Nat) (hs : 60000 < s.length) :
    Calls Tryz.prog 14 #[.pointer (some ⟨bl, 0, none⟩), .slice A s.length cap] w fun e w' => e = .returned (.tuple #[.int .i64 0, .int .i64 3]) ∧ Bel w w' := by
  have HE := Lib.hid (lend_any h)
  have HA := Lib.hid (lappend_long h s A cap hs)
  have HG := Lib.hid hg
  clear h hg
  generalize s.length = n at *
  go_enter Tryz.func14, Tryz.ntmps14
  go_wp2_with (first | (go_at_call 16; refine HE.out.mono ?_; rintro e w' ⟨rfl, rfl⟩) | (go_at_call 36; refine HA.out.mono ?_; rintro e w1 ⟨rfl, hb⟩; have HB := Lib.hid hb; clear hb) | (go_at_call 37; refine (lnumber_fault _ _ _ (HG.out.bel HB.out)).mono ?_; rintro e w2 ⟨rfl, hb2⟩))
  go_ret2
  exact ⟨rfl, HB.out.then_ hb2⟩
end Go.Proofs.YtiajggmnfaidjaaGreatDoor
