/-
  A region that only reads, inside a round of a range over a function: one walk serves every order (no operation of it defers, so the round makes no difference).
-/
import Derived.Sort.BigQuietIn
set_option linter.unusedVariables false
set_option linter.unusedSimpArgs false
set_option linter.unusedVariables false
set_option linter.unusedSimpArgs false
namespace Go.Proofs.YtiajggmnfaidjaaGreatDoor
open Go
section
variable {F : Fence} {n : Nat} {P : Program} {C : World → Prop} {ops : Array Oper}
theorem quiet_op {o : Oper} {a : Act} {K : Act → Prop} {K' : Act → World → Prop} {Q' : Exit → Act → World → Prop} {w : World} (hd : ∀ c, o.op ≠ Op.defer c) (hw : C w) (h : ∀ a w', C w' → K a → K' a w')
    (ha : o.askedIn F P a C) (hh : o.quietIn F n P a C K) : o.wpIn F n P a w K' Q' := by
  obtain ⟨v, h1, h2⟩ := hh
  have h3 := h1 w hw
  unfold Oper.quietAtIn at h3
  refine ⟨ha w hw, ?_⟩
  rw [Oper.semAt_eq _ _ _ hd]
  revert h3
  cases (execOp a.eval o).run P w with
  | halt x w' => intro h3; simp only [Oper.quietUponIn] at h3
  | ok x w' =>
    intro h3
    cases x with
    | value u =>
      simp only [Oper.quietUponIn] at h3
      simp only [Oper.uponIn]
      rw [h3.1, h3.2]
      exact h _ _ hw h2
    | skip =>
      simp only [Oper.quietUponIn] at h3
      simp only [Oper.uponIn]
      rw [h3.1, ← h3.2]
      exact h _ _ hw h2
    | enter f args =>
      simp only [Oper.quietUponIn] at h3
      simp only [Oper.uponIn]
      obtain ⟨e1, hd, hc⟩ := h3
      rw [e1]
      exact ⟨hd, hc.mono fun e w'' ⟨he, hw''⟩ => by subst he; exact h _ _ hw'' h2⟩
    | _ => simp only [Oper.quietUponIn] at h3
theorem quiet_any {Q : Act → Prop} {Q' : Exit → Act → World → Prop} (hd : ∀ (i : Nat) (o : Oper) (c : _), ops[i]? = some o → o.op ≠ Op.defer c) (hQ : ∀ a w, C w → Q a → Q' .normal a w) {md : Region.Mode} : ∀ (fuel : Nat) (listed : Array Bool) (a : Act) (w : World), C w →
    wpAnyQIn F n P md ops C Q fuel listed a → wpAnyIn F n P md ops Q' fuel listed a w
  | 0, _, _, _, hw, h => ⟨h.1, hQ _ _ hw h.2⟩
  | fuel + 1, listed, a, w, hw, h => ⟨fun h0 => hQ _ _ hw (h.1 h0), fun i hi => by
    have hh := h.2 i hi
    have next := fun a' w' (hw' : C w') => quiet_any (Q := Q) (Q' := Q') hd hQ (md := md) fuel (listed.setIfInBounds i true) a' w' hw'
    unfold qOpIn at hh
    unfold wpOpIn
    split
    · rename_i ho
      simp only [ho] at hh
      exact next _ _ hw hh
    · rename_i o ho
      simp only [ho] at hh
      obtain ⟨ha, hh⟩ := hh
      split
      · rename_i hwt
        simp only [hwt, if_true] at hh
        exact quiet_op (fun c => hd i o c ho) hw next ha hh
      · rename_i hwt
        simp only [hwt] at hh
        exact ⟨ha w hw, next _ _ hw hh⟩⟩
/-- The law, at the class 'w behind some draws'. -/
theorem quiet_region {id : Nat} {Q : Exit → Act → World → Prop} {a : Act} {w : World} {l : List Oper} (hd : (l.all fun o => match o.op with | Op.defer _ => false | _ => true) = true) (hm : P.follows .mixedOrders = true) (hB : Region.lexB .any l.toArray = true)
    (h : wpQuietIn F n P l.toArray (fun w' => ∃ n, w' = w.drewN n) (fun a' => ∀ w', (∃ n, w' = w.drewN n) → Q .normal a' w') l a) : (Code.region id l.toArray true).wpIn F n P Q a w := by
  have hB' := hB
  simp only [Region.lexB, Bool.and_eq_true] at hB'
  refine wpIn_region_any hm (quiet_any (C := fun w' => ∃ n, w' = w.drewN n) (Q := fun a' => ∀ w', (∃ n, w' = w.drewN n) → Q .normal a' w') (fun i o c hi hc => ?_) (fun _ w' hw' h => h w' hw') _ _ _ _ ⟨1, rfl⟩ ?_)
  · have hmem : o ∈ l := List.mem_of_getElem? (by simpa using hi)
    have := List.all_eq_true.1 hd o hmem
    rw [hc] at this
    cases this
  · have := wpAnyQIn_lex (F := F) (n := n) (C := fun w' => ∃ n, w' = w.drewN n) (md := .any) hB'.1 l 0 (Array.replicate l.toArray.size false) a (by simp) (by simpa using hB'.2) h
    simpa using this
end
end Go.Proofs.YtiajggmnfaidjaaGreatDoor
