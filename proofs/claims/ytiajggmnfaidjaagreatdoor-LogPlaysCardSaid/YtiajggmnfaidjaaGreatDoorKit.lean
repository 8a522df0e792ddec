/-
  Small plain lemmas of my own: frames of worlds below the heap's size, and endings.
-/
import Derived.Test.YtiajggmnfaidjaaGreatDoorRows
import Derived.Test.YtiajggmnfaidjaaGreatDoorTk
import Derived.WalkKit
import Derived.WalkSpells
import Derived.WalkLawsBesides
import Derived.Deep.QuietTactic
import Derived.Deep.Draws
import Derived.BigQuiet
import Derived.Lib.Hide
import Derived.ScopeJumps
import Derived.WalkMore
set_option linter.unusedVariables false
set_option linter.unusedSimpArgs false
set_option linter.unusedVariables false
set_option linter.unusedSimpArgs false
namespace Go.Proofs.YtiajggmnfaidjaaGreatDoor
open Go.RowKit

theorem ret_bool {a b : Bool} (h : a = b) : Ending.returned (.bool a) = Ending.returned (.bool b) := by rw [h]
theorem ret_int {k : IntKind} {a b : Int} (h : a = b) : Ending.returned (.int k a) = Ending.returned (.int k b) := by rw [h]

/-- Of what was there nothing has turned. -/
abbrev Bel (w w' : World) : Prop := Below w.heap.size w w'
theorem Bel.refl (w : World) : Bel w w := Below.refl _ _
theorem Bel.alloc {w W : World} (h : Bel w W) (o : Obj) : Bel w (W.alloc o) := Below.alloc h h.size o
theorem Bel.drew {w W : World} (h : Bel w W) : Bel w W.drew := Below.drew h
theorem Bel.drewN {w W : World} (h : Bel w W) (n : Nat) : Bel w (W.drewN n) := ⟨h.os, h.tape, h.output, h.size, h.block⟩
theorem Bel.then_ {w W W' : World} (h : Bel w W) (h' : Bel W W') : Bel w W' := Below.trans h (Below.mono h' h.size)
theorem Bel.setCell {w W : World} (h : Bel w W) {p : Addr} (hp : w.heap.size ≤ p.block) (u : Value) : Bel w (W.setCell p u) := Below.setCell h hp u
/-- What the walk wants of a world behind a call. -/
theorem bcell {W w1 : World} (hb : Bel W w1) : (∀ b o, b < W.heap.size → w1.cell? ⟨b, o, none⟩ = W.cell? ⟨b, o, none⟩) ∧ (∀ b o, b < W.heap.size → w1.frozen? ⟨b, o, none⟩ = W.frozen? ⟨b, o, none⟩) ∧ W.heap.size ≤ w1.heap.size :=
  ⟨fun b o h => Below.cell hb (p := ⟨b, o, none⟩) h, fun b o h => Below.frozen hb (p := ⟨b, o, none⟩) h, hb.size⟩

/-- A scope in which the run may jump forward to one label, and jumps no more behind it. -/
theorem wp_scope_forward {P : Program} {Q : Exit → Act → World → Prop} {a : Act} {w : World} {c rest : Code} (l : Nat) (hf : findLabel c l = some rest)
    (h : c.wp P (Exit.jump l (fun a' w' => rest.wp P (Exit.noGoto Q) a' w') Q) a w) : (Code.scope c).wp P Q a w :=
  wp_scope_jumps l _ (fun _ _ => 0) hf h fun _ _ hJ => wp_mono hJ fun e _ _ hq => by
    cases e with
    | goto l' => exact hq.elim
    | normal => exact hq
    | exit id => exact hq
    | ret => exact hq
    | panic ch => exact hq
    | outgrown => exact hq
theorem jump_goto {Q : Exit → Act → World → Prop} {J : Act → World → Prop} {a : Act} {w : World} (l : Nat) (h : J a w) : Exit.jump l J Q (.goto l) a w := ⟨rfl, h⟩
@[go_sem] theorem jump_ret {Q : Exit → Act → World → Prop} {J : Act → World → Prop} {a : Act} {w : World} (l : Nat) : Exit.jump l J Q .ret a w = Q .ret a w := rfl
@[go_sem] theorem jump_normal {Q : Exit → Act → World → Prop} {J : Act → World → Prop} {a : Act} {w : World} (l : Nat) : Exit.jump l J Q .normal a w = Q .normal a w := rfl
@[go_sem] theorem jump_exit {Q : Exit → Act → World → Prop} {J : Act → World → Prop} {a : Act} {w : World} (l id : Nat) : Exit.jump l J Q (.exit id) a w = Q (.exit id) a w := rfl
end Go.Proofs.YtiajggmnfaidjaaGreatDoor
