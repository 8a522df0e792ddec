/-
  The law DiskNone's walk.
-/
import Derived.Test.YthmigmiojifnkaaDoorDy
set_option linter.unusedVariables false
set_option linter.unusedSimpArgs false
set_option linter.unusedVariables false
set_option linter.unusedSimpArgs false
namespace Go.Proofs.YthmigmiojifnkaaDoor
open Go.RowKit Go.Shelf
attribute [local go_sem] Oper.semAt_some

/-- What the law's own cells hold. -/
def OwnC (X : Nat) (file n torn : Int) (b : Value) (V : World) : Prop := V.cell? ⟨X, 1, none⟩ = some (.int .i64 file) ∧ V.cell? ⟨X, 2, none⟩ = some (.int .i64 n) ∧ V.cell? ⟨X, 3, none⟩ = some (.int .i64 torn) ∧ V.cell? ⟨X, 4, none⟩ = some b ∧ V.cell? ⟨X + 1, 0, none⟩ = some (.bool false) ∧ V.frozen? ⟨X + 1, 0, none⟩ = false
theorem OwnC.bel {X : Nat} {file n torn : Int} {b : Value} {V V' : World} (h : OwnC X file n torn b V) (hb : Bel V V') : OwnC X file n torn b V' := ⟨hb.c h.1, hb.c h.2.1, hb.c h.2.2.1, hb.c h.2.2.2.1, hb.c h.2.2.2.2.1, hb.f h.2.2.2.2.1 h.2.2.2.2.2⟩
theorem fit9 : Fit (DM.new 9) := fit_of (by decide +kernel)
set_option maxRecDepth 100000 in
theorem few_one (X : Nat) (A : Option Addr) (nb cb : Nat) (hm : nb ≤ maxLen) (w : World) (c4 : w.cell? ⟨X, 4, none⟩ = some (.slice A nb cb)) : Calls Tryd.prog 8 #[.slice (some ⟨X, 0, none⟩) 1 1, .int .i64 1] w fun e w' => e = .returned (.bool (decide (nb ≤ 60))) ∧ w = w' := by
  unfold maxLen at hm
  by_cases h : nb ≤ 60
  · have h1 : decide (nb ≤ 60) = true := by simpa using h
    rw [h1]
    clear h1
    go_enter Tryd.func8, Tryd.ntmps8
    go_wp2
    refine wp_loop_rounds 2 ?_
    rw [rounds_succ]
    go_wp2
    rw [rounds_succ]
    go_wp2
    go_ret
    exact ⟨rfl, rfl⟩
  · have h1 : decide (nb ≤ 60) = false := by simpa using h
    rw [h1]
    clear h1
    go_enter Tryd.func8, Tryd.ntmps8
    go_wp2
    refine wp_loop_rounds 2 ?_
    rw [rounds_succ]
    go_wp2
    go_ret
    exact ⟨rfl, rfl⟩
set_option maxRecDepth 100000 in
set_option maxHeartbeats 2000000 in
theorem none_many (what file n torn : Int) (A : Option Addr) (nb cb : Nat) (hnb : 60 < nb) (hm : nb ≤ maxLen) (w : World) (hg : ErrType w) :
    Calls Tryd.prog 7 #[.agg #[.int .i64 what, .int .i64 file, .int .i64 n, .int .i64 torn, .slice A nb cb]] w fun e w' => e = .returned (.bool true) ∧ Bel w w' := by
  have h1 : decide (nb ≤ 60) = false := by simpa using hnb
  have HF := Lib.hid (few_one (w.heap.size + 1 + 1) A nb cb hm (((w.alloc (.cells #[.int .i64 what, .int .i64 file, .int .i64 n, .int .i64 torn, .slice A nb cb] 33)).alloc (.cells #[.bool false] 4)).alloc (.cells #[.int .i64 what, .int .i64 file, .int .i64 n, .int .i64 torn, .slice A nb cb] 33)) (by go_simp))
  have hba : Bel w (((w.alloc (.cells #[.int .i64 what, .int .i64 file, .int .i64 n, .int .i64 torn, .slice A nb cb] 33)).alloc (.cells #[.bool false] 4)).alloc (.cells #[.int .i64 what, .int .i64 file, .int .i64 n, .int .i64 torn, .slice A nb cb] 33)) := (((Bel.refl w).alloc _).alloc _).alloc _
  have HW := Lib.hid (dworks_any _ (hg.bel hba))
  have HBA := Lib.hid hba
  rw [h1] at HF
  clear hm hnb hg h1 hba
  refine calls_of_wp_marks 6 Tryd.func7 rfl ?_
  simp only [Tryd.ntmps7, List.size_toArray, List.length_cons, List.length_nil, Nat.reduceAdd, Nat.reduceSub, Array.replicate_succ, Array.replicate_zero, List.push_toArray, List.append_toArray, List.nil_append, List.cons_append]
  go_wp2_with (go_at_call 8; refine HF.out.mono ?_; rintro e w' ⟨rfl, rfl⟩)
  refine HW.out.mono ?_
  rintro e w1 ⟨rfl, hb1⟩
  have r1 := hb1.c (p := ⟨w.heap.size + 1, 0, none⟩) (v := .bool false) (by go_simp)
  have r2 := hb1.f (p := ⟨w.heap.size + 1, 0, none⟩) (v := .bool false) (by go_simp) (by go_simp)
  have HB1 := Lib.hid (HBA.out.then_ hb1)
  clear hb1
  go_wp2
  refine leavesM_nil ?_ ⟨rfl, ?_⟩
  · have hc : (w1.setCell ⟨w.heap.size + 1, 0, none⟩ (.bool true)).cell? ⟨w.heap.size + 1, 0, none⟩ = some (.bool true) := by go_simp
    simp [results, Tryd.results7, go_sem, hc]
  · exact HB1.out.setCell (by simp) _
def boolAt (V : World) (p : Addr) : Bool := match V.cell? p with | some (.bool b) => b | _ => false
theorem boolAt_of {V : World} {p : Addr} {b : Bool} (h : V.cell? p = some (.bool b)) : V.cell? p = some (.bool (boolAt V p)) := by unfold boolAt; rw [h]
/-- What stays as it is while the law asks. -/
def Rest (w : World) (D : Nat) (p : Option Addr) (bd : Nat) (fp : Nat → Prop) (V : World) : Prop := NoDisk V p ∧ ErrType V ∧ DiskIs V bd (DM.new 9) fp ∧ V.heap[D]? = some (.deferred (some [])) ∧ Bel w V
theorem Rest.bel {w V V' : World} {D : Nat} {p : Option Addr} {bd : Nat} {fp : Nat → Prop} (h : Rest w D p bd fp V) (hb : Bel V V') : Rest w D p bd fp V' :=
  ⟨h.1.bel hb, h.2.1.bel hb, h.2.2.1.bel hb, hb.deferred h.2.2.2.1, h.2.2.2.2.then_ hb⟩
theorem keepR {w V V' : World} {D : Nat} {p : Option Addr} {bd : Nat} {fp : Nat → Prop} {file n torn : Int} {A : Option Addr} {nb cb : Nat} (hb : Bel V V') (h : V.cell? ⟨w.heap.size, 1, none⟩ = some (.int .i64 file) ∧ V.cell? ⟨w.heap.size, 2, none⟩ = some (.int .i64 n) ∧ V.cell? ⟨w.heap.size, 3, none⟩ = some (.int .i64 torn) ∧ V.cell? ⟨w.heap.size, 4, none⟩ = some (.slice A nb cb) ∧ V.cell? ⟨w.heap.size + 1, 0, none⟩ = some (.bool (boolAt V ⟨w.heap.size + 1, 0, none⟩)) ∧ V.frozen? ⟨w.heap.size + 1, 0, none⟩ = false ∧ Hid (Rest w D p bd fp V)) : V'.cell? ⟨w.heap.size, 1, none⟩ = some (.int .i64 file) ∧ V'.cell? ⟨w.heap.size, 2, none⟩ = some (.int .i64 n) ∧ V'.cell? ⟨w.heap.size, 3, none⟩ = some (.int .i64 torn) ∧ V'.cell? ⟨w.heap.size, 4, none⟩ = some (.slice A nb cb) ∧ V'.cell? ⟨w.heap.size + 1, 0, none⟩ = some (.bool (boolAt V' ⟨w.heap.size + 1, 0, none⟩)) ∧ V'.frozen? ⟨w.heap.size + 1, 0, none⟩ = false ∧ Hid (Rest w D p bd fp V') :=
  ⟨hb.c h.1, hb.c h.2.1, hb.c h.2.2.1, hb.c h.2.2.2.1, boolAt_of (hb.c h.2.2.2.2.1), hb.f h.2.2.2.2.1 h.2.2.2.2.2.1, h.2.2.2.2.2.2.out.bel hb⟩
section
variable {w V : World} {D : Nat} {p : Option Addr} {bd : Nat} {fp : Nat → Prop} {file n torn : Int} {A : Option Addr} {nb cb : Nat} (h : V.cell? ⟨w.heap.size, 1, none⟩ = some (.int .i64 file) ∧ V.cell? ⟨w.heap.size, 2, none⟩ = some (.int .i64 n) ∧ V.cell? ⟨w.heap.size, 3, none⟩ = some (.int .i64 torn) ∧ V.cell? ⟨w.heap.size, 4, none⟩ = some (.slice A nb cb) ∧ V.cell? ⟨w.heap.size + 1, 0, none⟩ = some (.bool (boolAt V ⟨w.heap.size + 1, 0, none⟩)) ∧ V.frozen? ⟨w.heap.size + 1, 0, none⟩ = false ∧ Hid (Rest w D p bd fp V))
include h
theorem rNo : NoDisk V p := h.2.2.2.2.2.2.out.1
theorem rErr : ErrType V := h.2.2.2.2.2.2.out.2.1
theorem rDisk : DiskIs V bd (DM.new 9) fp := h.2.2.2.2.2.2.out.2.2.1
end
theorem set_true {V : World} {q : Addr} {u v : Value} (h : (V.setCell q v).cell? q = some u) : (V.setCell q v).cell? q = some v := by
  cases hV : V.cell? q with
  | some x => exact World.cell?_setCell_same _ _ _ hV
  | none =>
    obtain ⟨b, o, sp⟩ := q
    exfalso
    cases hb : V.heap[b]? with
    | none => simp [World.cell?, World.setCell, Array.getElem?_modify, hb] at h
    | some x => cases x <;> cases sp <;> simp_all [World.cell?, World.setCell, Array.getElem?_modify]
theorem keepSt {w V : World} {D : Nat} {p : Option Addr} {bd : Nat} {fp : Nat → Prop} {file n torn : Int} {A : Option Addr} {nb cb : Nat} (hp : ∀ a, p = some a → a.block ≠ w.heap.size + 1) (hf : ∀ b, fp b → b ≠ w.heap.size + 1) (b : Bool) (h : V.cell? ⟨w.heap.size, 1, none⟩ = some (.int .i64 file) ∧ V.cell? ⟨w.heap.size, 2, none⟩ = some (.int .i64 n) ∧ V.cell? ⟨w.heap.size, 3, none⟩ = some (.int .i64 torn) ∧ V.cell? ⟨w.heap.size, 4, none⟩ = some (.slice A nb cb) ∧ V.cell? ⟨w.heap.size + 1, 0, none⟩ = some (.bool (boolAt V ⟨w.heap.size + 1, 0, none⟩)) ∧ V.frozen? ⟨w.heap.size + 1, 0, none⟩ = false ∧ Hid (Rest w D p bd fp V)) : (fun V => V.cell? ⟨w.heap.size, 1, none⟩ = some (.int .i64 file) ∧ V.cell? ⟨w.heap.size, 2, none⟩ = some (.int .i64 n) ∧ V.cell? ⟨w.heap.size, 3, none⟩ = some (.int .i64 torn) ∧ V.cell? ⟨w.heap.size, 4, none⟩ = some (.slice A nb cb) ∧ V.cell? ⟨w.heap.size + 1, 0, none⟩ = some (.bool (boolAt V ⟨w.heap.size + 1, 0, none⟩)) ∧ V.frozen? ⟨w.heap.size + 1, 0, none⟩ = false ∧ Hid (Rest w D p bd fp V)) (V.setCell ⟨w.heap.size + 1, 0, none⟩ (.bool b)) := by
  obtain ⟨h1, h2, h3, h4, h5, h6, h7⟩ := h
  obtain ⟨r1, r2, r3, r4, r5⟩ := h7.out
  have ho : ∀ o, (V.setCell ⟨w.heap.size + 1, 0, none⟩ (.bool b)).cell? ⟨w.heap.size, o, none⟩ = V.cell? ⟨w.heap.size, o, none⟩ := fun o => World.cell?_setCell_other _ _ _ _ (by intro e; injection e with e; omega)
  refine ⟨(ho 1).trans h1, (ho 2).trans h2, (ho 3).trans h3, (ho 4).trans h4, boolAt_of (World.cell?_setCell_same _ _ _ h5), by rw [World.frozen?_setCell]; exact h6, ?_⟩
  refine ⟨?_, ?_, r3.kept fun k hk _ => Below.heap_setCell _ _ _ _ (hf k hk), heap_setCell_deferred _ _ r4, r5.setCell (by simp) _⟩
  · rcases r1 with r1 | ⟨bd', c0, c2, c3, e, hb⟩
    · exact .inl r1
    · exact .inr ⟨bd', c0, c2, c3, e, (Below.heap_setCell _ _ _ _ (hp _ e)).trans hb⟩
  · exact (World.cell?_setCell_other _ _ _ _ (by intro e; injection e with e; omega)).trans r2
end Go.Proofs.YthmigmiojifnkaaDoor
