/-
  Texts behind the statement: part 41.
-/
import Derived.Test.YtnajjhgbombboaaGreatDoorP31
set_option linter.unusedVariables false
set_option linter.unusedSimpArgs false
namespace Go.Proofs.YtnajjhgbombboaaGreatDoor
section
open Go.ChangeShapes Go.WideShapes Go.RowKit
section
variable {H:Type} {enc:TypeId×Value→H} {w:World} {base:Nat} {spare:Nat→Bool} {held:Bool}
set_option maxRecDepth 100000 in
theorem event_arg {r:Reach} {b0:Nat} {v:Value} {d:DataW H} {p:List MemPlace} (hv:Value.okWide Tryz.prog w r b0 31 v) (h:DataW.Trod enc Tryz.prog w base spare held 31 v d p) :
  ∃ (e:Ev) (vc vk vu vo vn vs:Value),v=evV e.k e.t vc vk vu vo vn vs∧EvAt w vc vk vu vo vn vs e∧e.In:=by
 have hs:=okWide_struct Tryz.underlying31 hv
 generalize Tryz.prog.cellsOf 31=sz at hs
 obtain ⟨cs,rfl,-⟩:=hs
 obtain ⟨fuel,hf⟩:=h
 obtain ⟨e,vc,vk,vu,vo,vn,vs,he,ha,hin⟩:=event_cells hf
 refine ⟨e,vc,vk,vu,vo,vn,vs, ?_,ha,hin⟩
 have he':cs.toList=evList e vc vk vu vo vn vs:=he
 rw [show cs=(evList e vc vk vu vo vn vs).toArray by rw [← he']]
 rfl
end
end
end Go.Proofs.YtnajjhgbombboaaGreatDoor
