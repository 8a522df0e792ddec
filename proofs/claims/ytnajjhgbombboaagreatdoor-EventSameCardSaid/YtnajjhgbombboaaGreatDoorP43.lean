/-
  Texts behind the statement: part 43.
-/
import Derived.Test.YtnajjhgbombboaaGreatDoorP7
set_option linter.unusedVariables false
set_option linter.unusedSimpArgs false
namespace Go.Proofs.YtnajjhgbombboaaGreatDoor
section
open Go.RowKit Go.Shelf Go.Lib
attribute [local go_sem] Oper.semAt_some
theorem str_eqb (a b:List UInt8):((⟨a.toArray⟩:ByteArray).toList == (⟨b.toArray⟩:ByteArray).toList)=decide (a=b):=by
 rw [str_beq]
 by_cases h:a=b
 ·rw [decide_eq_true h,h,decide_eq_true rfl]
 ·rw [decide_eq_false h]
  exact decide_eq_false fun e=>h (by have:=congrArg ByteArray.data e;simpa using this)
end
end Go.Proofs.YtnajjhgbombboaaGreatDoor
