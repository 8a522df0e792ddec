/-
  errors.As at a schema's fault, and the schema's number of an error.
-/
import Derived.Test.YtkklmflclmgjeaaGreatDoorAs
import Derived.StillTailTactics
import Derived.Deep.RegionHeld3
set_option linter.unusedVariables false
set_option linter.unusedSimpArgs false
set_option linter.unusedVariables false
set_option linter.unusedSimpArgs false
namespace Go.Proofs.YtkklmflclmgjeaaGreatDoor
open Go.RowKit Go.Extern.Stop Go.Stop Go.Extern

/-- A fault lies in block p: its name, and its number. -/
def SFaultAt (w : World) (p : Nat) (k : Int) : Prop := ∃ nm, w.heap[p]? = some (.cells #[.string nm, .iface 32 (.int .i64 k)] 151 (0, 0))
theorem SFaultAt.bel {w w' : World} {p : Nat} {k : Int} (h : SFaultAt w p k) (hb : Bel w w') : SFaultAt w' p k := by obtain ⟨nm, h⟩ := h; exact ⟨nm, hb.deferred h⟩
theorem asTypeOfF (v : Value) (w : World) : (ReflectliteType.typeOf #[.iface 149 v]).run Tryz.prog w = .ok (.iface 218 (.agg #[.pointer (some ⟨4, 149, none⟩)])) w := by kernel_rfl
theorem asAssignF (w : World) : (ReflectliteType.relation "AssignableTo" ReflectliteType.assignableTo #[.agg #[.pointer (some ⟨4, 149, none⟩)], .iface 218 (.agg #[.pointer (some ⟨4, 32, none⟩)])]).run Tryz.prog w = .ok (.bool false) w := by kernel_rfl
theorem asLacksAs (v : Value) (xT : TypeId) (w : World) : (Instr.typeAssert (.iface 149 v) xT 222 true).run Tryz.prog w = .ok (.tuple #[.nilIface, .bool false]) w := run_typeAssert_lacksB Tryz.underlying222 (by kernel_rfl) (by kernel_rfl) v xT w
theorem asHasUnwrap (v : Value) (xT : TypeId) (w : World) : (Instr.typeAssert (.iface 149 v) xT 225 true).run Tryz.prog w = .ok (.tuple #[.iface 149 v, .bool true]) w := run_typeAssert_hasB Tryz.underlying225 (by kernel_rfl) v xT w
theorem asMUnwrap (p : Addr) (w : World) : (Go.method 390 149 (.pointer (some p)) "Unwrap").run Tryz.prog w = .ok (216, .pointer (some p)) w := by kernel_rfl
set_option maxHeartbeats 1000000 in
theorem asIn_sfault (p : Nat) (k : Int) (t b : Addr) (x old : Value) (w : World) (hp : SFaultAt w p k) (hb : w.cell? b = some (.pointer (some t))) (ht : w.cell? t = some old) (hf : w.frozen? t = false) :
    Calls Tryz.prog 136 #[.iface 149 (.pointer (some ⟨p, 0, none⟩)), x, .agg #[.pointer (some ⟨4, 126, none⟩), .pointer (some b), .int .u64 150], .iface 218 (.agg #[.pointer (some ⟨4, 32, none⟩)])] w (AsPost t k w) := by
  have hbl : b.block < w.heap.size := World.block_lt_of_cell? (w := w) (a := b) hb
  have htl : t.block < w.heap.size := World.block_lt_of_cell? (w := w) (a := t) ht
  obtain ⟨fl, hp⟩ := hp
  have hpl := (Array.getElem?_eq_some_iff.1 hp).1
  have g1 := asTypeOfF
  have g2 := asAssignF
  have g3 := asLacksAs
  have g4 := asHasUnwrap
  have g5 := asMUnwrap
  have hwhy : (w.alloc (.cells #[.pointer (some ⟨4, 126, none⟩), .pointer (some b), .int .u64 150] 189)).cell? ⟨p, 1, none⟩ = some (.iface 32 (.int .i64 k)) := by
    rw [World.cell?_alloc_lt _ _ ⟨p, 1, none⟩ hpl]; simp [World.cell?, hp]
  clear hp
  have h1 := @run_callFunc_extern Tryz.prog 137 _ ReflectliteType.typeOf Tryz.func137 (by kernel_rfl) (by kernel_rfl) (by kernel_rfl) (by kernel_rfl)
  have h2 := @run_callFunc_extern Tryz.prog 221 _ (ReflectliteType.relation "AssignableTo" ReflectliteType.assignableTo) Tryz.func221 (by kernel_rfl) (by kernel_rfl) (by kernel_rfl) (by kernel_rfl)
  have h3 := @run_callFunc_extern Tryz.prog 158 _ (ReflectliteValue.method (ReflectliteValue.valueError "reflectlite.Value.Elem" 0) ReflectliteValue.elem) Tryz.func158 (by kernel_rfl) (by kernel_rfl) (by kernel_rfl) (by kernel_rfl)
  have h4 := @run_callFunc_extern Tryz.prog 133 _ (fun args => ReflectliteValue.unpack (args.getD 0 (.tuple #[]))) Tryz.func133 (by kernel_rfl) (by kernel_rfl) (by kernel_rfl) (by kernel_rfl)
  have h5 := @run_callFunc_extern Tryz.prog 159 _ ReflectliteValue.set Tryz.func159 (by kernel_rfl) (by kernel_rfl) (by kernel_rfl) (by kernel_rfl)
  have f1 := asTypeOf
  have f2 := asMAssign
  have f3 := asAssign
  have f4 := asValueOfE
  have el := asElemV b t (w.alloc (.cells #[.pointer (some ⟨4, 126, none⟩), .pointer (some b), .int .u64 150] 189)) (by rw [World.cell?_alloc_lt _ _ b hbl]; exact hb)
  have st := asSet t ⟨w.heap.size + 1, 0, none⟩ k old ((w.alloc (.cells #[.pointer (some ⟨4, 126, none⟩), .pointer (some b), .int .u64 150] 189)).alloc (.cells #[.int .i64 k] 32))
    (by rw [World.cell?_alloc_at _ _ _ _ (by simp)]; rfl)
    (by rw [World.cell?_alloc_lt _ _ t (by simp; omega), World.cell?_alloc_lt _ _ t htl]; exact ht)
    (by rw [World.frozen?_alloc_old _ _ t (by simp; omega), World.frozen?_alloc_old _ _ t (Nat.ne_of_lt htl)]; exact hf)
  have hfin : AsPost t k w (.returned (.bool true)) ((((w.alloc (.cells #[.pointer (some ⟨4, 126, none⟩), .pointer (some b), .int .u64 150] 189)).alloc (.cells #[.int .i64 k] 32))).setCell t (.int .i64 k)) := by
    refine ⟨rfl, grown_trans (grown_alloc (grown_alloc (grown_refl _ _) _) _) (grown_setCell _ _ _), ?_, ?_⟩
    · exact World.cell?_setCell_same _ _ _ (u := old) (by rw [World.cell?_alloc_lt _ _ t (by simp; omega), World.cell?_alloc_lt _ _ t htl]; exact ht)
    · rw [World.frozen?_setCell, World.frozen?_alloc_old _ _ t (by simp; omega), World.frozen?_alloc_old _ _ t (Nat.ne_of_lt htl)]; exact hf
  have HFIN := Lib.hid hfin
  clear hfin
  go_enter Tryz.func136, Tryz.ntmps136
  go_wp2
  refine wp_loop_rounds 2 ?_
  rw [rounds_succ]
  go_wp2
  rw [rounds_succ]
  go_wp2
  go_ret
  exact HFIN.out


set_option maxHeartbeats 1000000 in
theorem scnumber_nil (w : World) : Calls Tryz.prog 52 #[.nilIface] w fun e w' => e = .returned (.int .i64 0) ∧ Bel w w' := by
  go_enter Tryz.func52, Tryz.ntmps52
  go_wp2
  refine bodyPost_ret (v := .int .i64 0) (by simp [results, Tryz.results52, go_sem]) rfl ⟨rfl, ?_⟩
  exact by (repeat (first | exact Below.refl _ _ | assumption | exact Bel.refl _ | refine Bel.alloc ?_ _ | refine Bel.drew ?_ | refine Bel.drewN ?_ _ | refine Bel.then_ ?_ (by assumption) | refine Bel.setCell ?_ (by first | (simp; done) | (simp; omega)) _))
theorem scnumber_fault (p : Nat) (k : Int) (w : World) (hg : ErrType w) (hp : SFaultAt w p k) : Calls Tryz.prog 52 #[.iface 149 (.pointer (some ⟨p, 0, none⟩))] w fun e w' => e = .returned (.int .i64 k) ∧ Bel w w' := by
  have hba : Bel w (w.alloc (.cells #[.int .i64 0] 32)) := (Bel.refl w).alloc _
  have H := Lib.hid (as_of 149 (.pointer (some ⟨p, 0, none⟩)) k ⟨w.heap.size, 0, none⟩ (.int .i64 0) (w.alloc (.cells #[.int .i64 0] 32)) (hg.bel hba) (by simp) (by simp)
    (fun W b hW h1 h2 h3 => asIn_sfault p k ⟨w.heap.size, 0, none⟩ b _ _ W (hp.bel (hba.then_ hW)) h1 h2 h3))
  have HBA := Lib.hid hba
  clear hg hp hba
  go_enter Tryz.func52, Tryz.ntmps52
  go_wp2_with fail
  refine H.out.mono ?_
  rintro e w1 ⟨rfl, hg1, hc1, hf1⟩
  have HG : Hid (Bel w w1) := Below.grown HBA.out hg1 (by simp) (fun j e => by cases e; exact Nat.le_refl _)
  clear hg1
  go_wp2
  refine bodyPost_ret (v := .int .i64 k) (by simp [results, Tryz.results52, go_sem, hc1, hf1]) rfl ⟨rfl, ?_⟩
  exact HG.out.setCell (Nat.le_refl _) _
end Go.Proofs.YtkklmflclmgjeaaGreatDoor
