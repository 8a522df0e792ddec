/-
  A drawn region's moves, with few words.
-/
import Derived.Deep.RegionHeld
import Derived.WalkKit
set_option linter.unusedVariables false
set_option linter.unusedSimpArgs false
set_option linter.unusedVariables false
set_option linter.unusedSimpArgs false
namespace Go.Proofs.YtiajggmnfaidjaaGreatDoor
theorem tkp0 (a : Act) (d : Tmp) (v : Value) : a.put (some d) v = { a with tmps := a.tmps.setIfInBounds d v } := rfl
theorem tkp1 (a : Act) (v : Value) : a.put none v = a := rfl
theorem tkp2 {α : Type} {xs : List α} {i : Nat} (h : i < xs.toArray.size) : xs.toArray[i] = xs[i]'(by simpa using h) := List.getElem_toArray h
theorem tkp3 {α : Type} {a : α} {xs : List α} {i : Nat} (h : i + 1 < (a :: xs).length) : (a :: xs)[i + 1] = xs[i]'(by simpa using h) := rfl
theorem tkp4 {α : Type} {a : α} {xs : List α} (h : 0 < (a :: xs).length) : (a :: xs)[0] = a := rfl
theorem tkp5 {α : Type} (xs : List α) (i : Nat) (a : α) : xs.toArray.setIfInBounds i a = (xs.set i a).toArray := List.setIfInBounds_toArray xs i a
theorem tkp6 {α : Type} (x y : α) (xs : List α) : (x :: xs).set 0 y = y :: xs := rfl
theorem tkp7 {α : Type} (x y : α) (i : Nat) (xs : List α) : (x :: xs).set (i + 1) y = x :: xs.set i y := rfl
section
variable {P : Program} {ops : Array Oper} {Q : Exit → Act → World → Prop} {md : Region.Mode} {S : World → Prop}
def tkB (md : Region.Mode) (ops : Array Oper) (listed : Array Bool) (i : Nat) (oi : Oper) (a : Act) (b : Bool) : Bool :=
  Region.noSelect ops && (Region.free md ops listed i && ((Region.ready md ops listed).contains i && Region.wanted oi (yielded ops a.tmps) == b))
theorem tk (i : Nat) {oi : Oper} {v : Value} {fuel : Nat} {listed l' : Array Bool} {a a' : Act} {w : World} (h : wpAnyH P md ops Q S fuel l' a' w)
    (hi : ops[i]? = some oi := by exact rfl)
    (hs : tkB md ops listed i oi a true = true := by kernel_rfl)
    (hy : ∀ w, S w → (execOp a.eval oi).run P w = .ok (.value v) w := by (intro w h; (try dsimp only at h); go_simp; try with_reducible rfl))
    (hQ : ∀ c a w, Q (.panic c) (a.put oi.dst v) w → Q (.panic c) a w := by exact fun _ _ _ h => h)
    (hS : S w := by assumption)
    (ha : a.put oi.dst v = a' := by first | (simp only [tkp0, tkp1, tkp2, tkp3, tkp4, tkp5, tkp6, tkp7]; exact rfl) | exact rfl)
    (hl : listed.setIfInBounds i true = l' := by first | (simp only [tkp5, tkp6, tkp7]; exact rfl) | exact rfl) : wpAnyH P md ops Q S (fuel + 1) listed a w := by
  subst ha hl
  unfold tkB at hs
  simp only [Bool.and_eq_true, beq_iff_eq] at hs
  exact wpAnyH_take hi hs.1 hs.2.1 hs.2.2.1 hQ (Or.inl ⟨hs.2.2.2, hy⟩) hS h
theorem tn (i : Nat) {oi : Oper} {fuel : Nat} {listed l' : Array Bool} {a a' : Act} {w : World} (h : wpAnyH P md ops Q S fuel l' a' w)
    (hi : ops[i]? = some oi := by exact rfl)
    (hs : tkB md ops listed i oi a false = true := by kernel_rfl)
    (hQ : ∀ c a w, Q (.panic c) (a.put oi.dst undef) w → Q (.panic c) a w := by exact fun _ _ _ h => h)
    (hS : S w := by assumption)
    (ha : a.put oi.dst undef = a' := by first | (simp only [tkp0, tkp1, tkp2, tkp3, tkp4, tkp5, tkp6, tkp7]; exact rfl) | exact rfl)
    (hl : listed.setIfInBounds i true = l' := by first | (simp only [tkp5, tkp6, tkp7]; exact rfl) | exact rfl) : wpAnyH P md ops Q S (fuel + 1) listed a w := by
  subst ha hl
  unfold tkB at hs
  simp only [Bool.and_eq_true, beq_iff_eq] at hs
  exact wpAnyH_take hi hs.1 hs.2.1 hs.2.2.1 hQ (Or.inr ⟨hs.2.2.2, rfl⟩) hS h
theorem rd1 (i : Nat) {fuel : Nat} {listed l' : Array Bool} {a : Act} {w : World} {o : Oper}
    (h : ∀ K : Act → World → Prop, Shut (∀ a w, S w → (S w → wpAnyH P md ops Q S fuel l' a w) → K a w) → if Region.wanted o (yielded ops a.tmps) = true then Oper.wp P o a w K Q else K (a.put o.dst undef) w)
    (ho : ops[i]? = some o := by exact rfl)
    (hr : Region.ready md ops listed = [i] := by kernel_rfl)
    (hl : listed.setIfInBounds i true = l' := by first | (simp only [tkp5, tkp6, tkp7]; exact rfl) | exact rfl) : wpAnyH P md ops Q S (fuel + 1) listed a w := by
  subst hl
  exact wpAnyH_ready hr (by simp) (AllReadyH.cons ho h AllReadyH.nil)
end
end Go.Proofs.YtiajggmnfaidjaaGreatDoor
