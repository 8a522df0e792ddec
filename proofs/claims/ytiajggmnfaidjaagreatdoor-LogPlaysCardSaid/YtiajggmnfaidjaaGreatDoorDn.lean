/-
  errors.As at a disk's fault, and the disk's number of an error.
-/
import Derived.Test.YtiajggmnfaidjaaGreatDoorDk
set_option linter.unusedVariables false
set_option linter.unusedSimpArgs false
set_option linter.unusedVariables false
set_option linter.unusedSimpArgs false
namespace Go.Proofs.YtiajggmnfaidjaaGreatDoor
open Go.RowKit Go.Extern.Stop Go.Stop Go.Extern

theorem asTypeOfF (v : Value) (w : World) : (ReflectliteType.typeOf #[.iface 100 v]).run Tryz.prog w = .ok (.iface 155 (.agg #[.pointer (some ⟨1, 100, none⟩)])) w := by kernel_rfl
theorem asAssignF (w : World) : (ReflectliteType.relation "AssignableTo" ReflectliteType.assignableTo #[.agg #[.pointer (some ⟨1, 100, none⟩)], .iface 155 (.agg #[.pointer (some ⟨1, 26, none⟩)])]).run Tryz.prog w = .ok (.bool false) w := by kernel_rfl
theorem asLacksAs (v : Value) (xT : TypeId) (w : World) : (Instr.typeAssert (.iface 100 v) xT 169 true).run Tryz.prog w = .ok (.tuple #[.nilIface, .bool false]) w := run_typeAssert_lacksB Tryz.underlying169 (by kernel_rfl) (by kernel_rfl) v xT w
theorem asHasUnwrap (v : Value) (xT : TypeId) (w : World) : (Instr.typeAssert (.iface 100 v) xT 160 true).run Tryz.prog w = .ok (.tuple #[.iface 100 v, .bool true]) w := run_typeAssert_hasB Tryz.underlying160 (by kernel_rfl) v xT w
theorem asMUnwrap (p : Addr) (w : World) : (Go.method 300 100 (.pointer (some p)) "Unwrap").run Tryz.prog w = .ok (106, .pointer (some p)) w := by kernel_rfl
set_option maxHeartbeats 1000000 in
theorem asIn_dfault (p : Nat) (k : Int) (t b : Addr) (x old : Value) (w : World) (hp : FaultAt w p k) (hb : w.cell? b = some (.pointer (some t))) (ht : w.cell? t = some old) (hf : w.frozen? t = false) :
    Calls Tryz.prog 78 #[.iface 100 (.pointer (some ⟨p, 0, none⟩)), x, .agg #[.pointer (some ⟨1, 124, none⟩), .pointer (some b), .int .u64 150], .iface 155 (.agg #[.pointer (some ⟨1, 26, none⟩)])] w (AsPost t k w) := by
  have hbl : b.block < w.heap.size := World.block_lt_of_cell? (w := w) (a := b) hb
  have htl : t.block < w.heap.size := World.block_lt_of_cell? (w := w) (a := t) ht
  obtain ⟨fl, hp⟩ := hp
  have hpl := (Array.getElem?_eq_some_iff.1 hp).1
  have g1 := asTypeOfF
  have g2 := asAssignF
  have g3 := asLacksAs
  have g4 := asHasUnwrap
  have g5 := asMUnwrap
  have hwhy : (w.alloc (.cells #[.pointer (some ⟨1, 124, none⟩), .pointer (some b), .int .u64 150] 145)).cell? ⟨p, 1, none⟩ = some (.iface 26 (.int .i64 k)) := by
    rw [World.cell?_alloc_lt _ _ ⟨p, 1, none⟩ hpl]; simp [World.cell?, hp]
  clear hp
  have h1 := @run_callFunc_extern Tryz.prog 64 _ ReflectliteType.typeOf Tryz.func64 (by kernel_rfl) (by kernel_rfl) (by kernel_rfl) (by kernel_rfl)
  have h2 := @run_callFunc_extern Tryz.prog 113 _ (ReflectliteType.relation "AssignableTo" ReflectliteType.assignableTo) Tryz.func113 (by kernel_rfl) (by kernel_rfl) (by kernel_rfl) (by kernel_rfl)
  have h3 := @run_callFunc_extern Tryz.prog 85 _ (ReflectliteValue.method (ReflectliteValue.valueError "reflectlite.Value.Elem" 0) ReflectliteValue.elem) Tryz.func85 (by kernel_rfl) (by kernel_rfl) (by kernel_rfl) (by kernel_rfl)
  have h4 := @run_callFunc_extern Tryz.prog 75 _ (fun args => ReflectliteValue.unpack (args.getD 0 (.tuple #[]))) Tryz.func75 (by kernel_rfl) (by kernel_rfl) (by kernel_rfl) (by kernel_rfl)
  have h5 := @run_callFunc_extern Tryz.prog 86 _ ReflectliteValue.set Tryz.func86 (by kernel_rfl) (by kernel_rfl) (by kernel_rfl) (by kernel_rfl)
  have f1 := asTypeOf
  have f2 := asMAssign
  have f3 := asAssign
  have f4 := asValueOfE
  have el := asElemV b t (w.alloc (.cells #[.pointer (some ⟨1, 124, none⟩), .pointer (some b), .int .u64 150] 145)) (by rw [World.cell?_alloc_lt _ _ b hbl]; exact hb)
  have st := asSet t ⟨w.heap.size + 1, 0, none⟩ k old ((w.alloc (.cells #[.pointer (some ⟨1, 124, none⟩), .pointer (some b), .int .u64 150] 145)).alloc (.cells #[.int .i64 k] 26))
    (by rw [World.cell?_alloc_at _ _ _ _ (by simp)]; rfl)
    (by rw [World.cell?_alloc_lt _ _ t (by simp; omega), World.cell?_alloc_lt _ _ t htl]; exact ht)
    (by rw [World.frozen?_alloc_old _ _ t (by simp; omega), World.frozen?_alloc_old _ _ t (Nat.ne_of_lt htl)]; exact hf)
  have hfin : AsPost t k w (.returned (.bool true)) ((((w.alloc (.cells #[.pointer (some ⟨1, 124, none⟩), .pointer (some b), .int .u64 150] 145)).alloc (.cells #[.int .i64 k] 26))).setCell t (.int .i64 k)) := by
    refine ⟨rfl, grown_trans (grown_alloc (grown_alloc (grown_refl _ _) _) _) (grown_setCell _ _ _), ?_, ?_⟩
    · exact World.cell?_setCell_same _ _ _ (u := old) (by rw [World.cell?_alloc_lt _ _ t (by simp; omega), World.cell?_alloc_lt _ _ t htl]; exact ht)
    · rw [World.frozen?_setCell, World.frozen?_alloc_old _ _ t (by simp; omega), World.frozen?_alloc_old _ _ t (Nat.ne_of_lt htl)]; exact hf
  have HFIN := Lib.hid hfin
  clear hfin
  go_enter Tryz.func78, Tryz.ntmps78
  go_wp2
  refine wp_loop_rounds 2 ?_
  rw [rounds_succ]
  go_wp2
  rw [rounds_succ]
  go_wp2
  go_ret
  exact HFIN.out


set_option maxHeartbeats 1000000 in
theorem dnumber_nil (w : World) : Calls Tryz.prog 45 #[.nilIface] w fun e w' => e = .returned (.int .i64 0) ∧ Bel w w' := by
  go_enter Tryz.func45, Tryz.ntmps45
  go_wp2
  refine bodyPost_ret (v := .int .i64 0) (by simp [results, Tryz.results45, go_sem]) rfl ⟨rfl, ?_⟩
  exact by (repeat (first | exact Below.refl _ _ | assumption | exact Bel.refl _ | refine Bel.alloc ?_ _ | refine Bel.drew ?_ | refine Bel.drewN ?_ _ | refine Bel.then_ ?_ (by assumption) | refine Bel.setCell ?_ (by first | (simp; done) | (simp; omega)) _))
theorem dnumber_fault (p : Nat) (k : Int) (w : World) (hg : ErrType w) (hp : FaultAt w p k) : Calls Tryz.prog 45 #[.iface 100 (.pointer (some ⟨p, 0, none⟩))] w fun e w' => e = .returned (.int .i64 k) ∧ Bel w w' := by
  have hba : Bel w (w.alloc (.cells #[.int .i64 0] 26)) := (Bel.refl w).alloc _
  have H := Lib.hid (as_of 100 (.pointer (some ⟨p, 0, none⟩)) k ⟨w.heap.size, 0, none⟩ (.int .i64 0) (w.alloc (.cells #[.int .i64 0] 26)) (hg.bel hba) (by simp) (by simp)
    (fun W b hW h1 h2 h3 => asIn_dfault p k ⟨w.heap.size, 0, none⟩ b _ _ W (hp.bel (hba.then_ hW)) h1 h2 h3))
  have HBA := Lib.hid hba
  clear hg hp hba
  go_enter Tryz.func45, Tryz.ntmps45
  go_wp2_with fail
  refine H.out.mono ?_
  rintro e w1 ⟨rfl, hg1, hc1, hf1⟩
  have HG : Hid (Bel w w1) := Below.grown HBA.out hg1 (by simp) (fun j e => by cases e; exact Nat.le_refl _)
  clear hg1
  go_wp2
  refine bodyPost_ret (v := .int .i64 k) (by simp [results, Tryz.results45, go_sem, hc1, hf1]) rfl ⟨rfl, ?_⟩
  exact HG.out.setCell (Nat.le_refl _) _
end Go.Proofs.YtiajggmnfaidjaaGreatDoor
