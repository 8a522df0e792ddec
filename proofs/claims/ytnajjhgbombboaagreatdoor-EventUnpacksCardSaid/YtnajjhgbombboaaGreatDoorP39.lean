/-
  Texts behind the statement: part 39.
-/
import Derived.Test.YtnajjhgbombboaaGreatDoorP30
import Derived.Laws.MakeOwn
set_option linter.unusedVariables false
set_option linter.unusedSimpArgs false
namespace Go.Proofs.YtnajjhgbombboaaGreatDoor
section
open Go.RowKit Go.Shelf Go.Lib
attribute [local go_sem] Oper.semAt_some
theorem MadeAt.events {w3 wr:World} {k:Nat} (h:MadeAt w3 wr k k) (hk:k≤1000):EventsAt wr (.slice (some ⟨w3.heap.size,0,none⟩) k k) (List.replicate k (⟨5,⟨#[116]⟩,[],[],[],[],[],[]⟩:Ev)):=by
 obtain ⟨hb,cs,h1,h2,h3⟩:=h
 refine ⟨_,k,by rw [List.length_replicate],by rw [List.length_replicate];exact Nat.le_refl _,by unfold maxLen;omega,fun _=>⟨w3.heap.size,0,rfl,fun i x hx=>?_⟩⟩
 have hik:i<k:=by have:=(List.getElem?_eq_some_iff.1 hx).1;rwa [List.length_replicate] at this
 obtain rfl:(⟨5,⟨#[116]⟩,[],[],[],[],[],[]⟩:Ev)=x:=by rw [List.getElem?_replicate,if_pos hik] at hx;exact Option.some.inj hx
 have hc : ∀ c,c<8→wr.cell? ⟨w3.heap.size,0+i * 8+c,none⟩=l5[c]?:=fun c hc=>by rw [Nat.zero_add];exact (h1.cell _).trans (h3 i hik c hc)
 exact ⟨_,_,_,_,_,_,evnil_at wr 5 ⟨#[116]⟩,hc 0 (by omega),hc 1 (by omega),hc 2 (by omega),hc 3 (by omega),hc 4 (by omega),hc 5 (by omega),hc 6 (by omega),hc 7 (by omega)⟩
end
end Go.Proofs.YtnajjhgbombboaaGreatDoor
