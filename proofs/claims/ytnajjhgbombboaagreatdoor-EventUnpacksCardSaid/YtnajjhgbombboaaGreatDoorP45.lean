/-
  Texts behind the statement: part 45.
-/
import Derived.Test.YtnajjhgbombboaaGreatDoorP19
set_option linter.unusedVariables false
set_option linter.unusedSimpArgs false
namespace Go.Proofs.YtnajjhgbombboaaGreatDoor
section
open Go.RowKit Go.Shelf Go.Lib
attribute [local go_sem] Oper.semAt_some
def pickL (o:Option (List Ev)):List Ev×Int:=match o with
 | some l=>(l,0)
 | none=>([],180)
end
end Go.Proofs.YtnajjhgbombboaaGreatDoor
