/-
  A range over a function or a method value that goes over a known list, whose arguments are known as they come: SeqR, wpIn_seqr, wp_seqr (as Seq's, but the handed arguments need not be known beforehand, and the function may be bound to a receiver).
-/
import Derived.Test.YtiajggmnfaidjaaGreatDoorSeq
set_option linter.unusedVariables false
set_option linter.unusedSimpArgs false
set_option linter.unusedVariables false
set_option linter.unusedSimpArgs false
namespace Go.Proofs.YtiajggmnfaidjaaGreatDoor
open Go.RowKit Go.Shelf

/-- From A to B nothing below n₀ has turned, and nothing from n₁ on that was there. -/
structure Own (n₀ n₁ : Nat) (A B : World) : Prop where
  below : Below n₀ A B
  keep : ∀ k, n₁ ≤ k → k < A.heap.size → B.heap[k]? = A.heap[k]?
theorem Own.refl (n₀ n₁ : Nat) (w : World) : Own n₀ n₁ w w := ⟨Below.refl _ _, fun _ _ _ => rfl⟩
theorem Own.trans {n₀ n₁ : Nat} {A B C : World} (h : Own n₀ n₁ A B) (k : Own n₀ n₁ B C) : Own n₀ n₁ A C :=
  ⟨h.below.trans k.below, fun j h1 h2 => (k.keep j h1 (Nat.lt_of_lt_of_le h2 h.below.size)).trans (h.keep j h1 h2)⟩
theorem Own.of_bel {n₀ n₁ : Nat} {A B : World} (hn : n₀ ≤ A.heap.size) (h : Bel A B) : Own n₀ n₁ A B := ⟨Below.mono h hn, fun k _ hk => h.block k hk⟩
def SeqR {α : Type} (F : Fence) (n : Nat) (P : Program) (gf : Nat) (bd lb : Array Value) (E : α × Array Value → World → Prop) (n₀ : Nat) (xs : List α) (w0 : World) : Prop :=
  ∀ (l : Nat) (J Jx : List α → World → Prop) (W : World), Below n₀ w0 W → (∀ s A B, J s A → Bel A B → J s B) →
    (∀ pre x vs rest W1, xs = pre ++ x :: rest → J pre W1 → E (x, vs) W1 → YieldAt F (n - 1) P l vs W1 fun e W' =>
      (e = .returned (.bool true) ∧ J (pre ++ [x]) W' ∧ Own n₀ W.heap.size W1 W') ∨ (e = .returned (.bool false) ∧ Jx (pre ++ [x]) W')) →
    J [] W →
    CallsIn F n P gf (bd ++ #[.func (.yield l) #[] #[]] ++ lb) W fun e W' => (∃ v, e = .returned v) ∧ (J xs W' ∨ ∃ pre x rest, xs = pre ++ x :: rest ∧ Jx (pre ++ [x]) W')

variable {F : Fence} {n : Nat} {P : Program}

theorem wpIn_seqr {α : Type} {g : Operand} {ps : Array Tmp} {assign body : Code} {Q : Exit → Act → World → Prop} {a : Act} {w : World}
    (hro : F.round = none) (h1 : 1 ≤ n) {gf : Nat} {bd lb : Array Value} (hg : a.eval g = .func (.func gf) bd lb) (hFg : F.fn gf) (eg : ∀ args w, (callFunc gf args).run P w = .ok (.enter gf args) w)
    {E : α × Array Value → World → Prop} {n₀ : Nat} {xs : List α} {w0 : World} (hseq : SeqR F (n - 1) P gf bd lb E n₀ xs w0) (hn0 : n₀ ≤ w.heap.size) (hb0 : Below n₀ w0 w) (hps : ∀ x vs W, E (x, vs) W → vs.size = ps.size)
    (I : List α → World → Prop) (Ix : Code → List α → World → Prop) (hI : OwnFrom w.heap.size I) (hIx : ∀ c, OwnFrom w.heap.size (Ix c)) (hE : OwnFrom w.heap.size E) (h0 : I [] w)
    (Ax : α → Array Value → Act → World → Prop) (hAx : ∀ x vs a', OwnFrom w.heap.size (fun (_ : Unit) W => Ax x vs a' W))
    (hassign : ∀ (l : Nat) (pre : List α) (x : α) (vs : Array Value) (W : World) (K : Act → World → Prop), I pre W → E (x, vs) W → w.heap.size ≤ W.heap.size → (∀ a' W', KeepsFrom w.heap.size W W' → Own n₀ (w.heap.size + 2) W W' → I pre W' → E (x, vs) W' → Ax x vs a' W' → K a' W') →
      assign.wpIn (F.inRound l) (n - 1 - 1) P (Exit.then K (fun _ _ _ => False)) { tmps := (ps.zip vs).foldl (fun t (p, v) => t.setIfInBounds p v) a.tmps, defers := [] } W)
    (hbody : ∀ (l : Nat) (pre : List α) (x : α) (vs : Array Value) (rest : List α) (a' : Act) (W : World), xs = pre ++ x :: rest → w.heap.size ≤ l → (∃ r, W.heap[l]? = some (.loop r)) → I pre W → E (x, vs) W → Ax x vs a' W →
      body.wpIn (F.inRound l) (n - 1 - 1) P (ownPostG w.heap.size (Own n₀ (w.heap.size + 2)) I Ix (pre ++ [x]) W) a' W)
    (hdone : ∀ (D : Nat) (W : World), w.heap.size ≤ D → I xs W → W.heap[D]? = some (.deferred (some [])) → Q .normal { a with defers := { target := .collected D, args := #[] } :: a.defers } W)
    (hstop : ∀ (D : Nat) (c : Code) (pre : List α) (x : α) (rest : List α) (W : World), w.heap.size ≤ D → xs = pre ++ x :: rest → Ix c (pre ++ [x]) W → W.heap[D]? = some (.deferred (some [])) →
      c.wpIn F n P Q { a with defers := { target := .collected D, args := #[] } :: a.defers } W) :
    (Code.rangeFunc g ps assign body).wpIn F n P Q a w := by
  refine wpIn_rangeFunc fun fn hfn => ?_
  rw [hro]
  -- the record of the loop, and the block of the rounds' deferred calls
  generalize hR : (fun st pe => ({ state := st, pending := pe, fn, tmps := a.tmps, params := ps, assign, body, defers := w.heap.size } : Loop)) = R
  have hR' : ∀ st pe, R st pe = { state := st, pending := pe, fn, tmps := a.tmps, params := ps, assign, body, defers := w.heap.size } := fun st pe => by rw [← hR]
  let W1 := (w.alloc (.deferred (some []))).alloc (.loop (R .ready none))
  let Fine : Obj → World → Prop := fun o W => W.heap[w.heap.size + 1]? = some o ∧ W.heap[w.heap.size]? = some (.deferred (some []))
  have hs1 : W1.heap.size = w.heap.size + 2 := by simp [W1]
  have hF1 : Fine (.loop (R .ready none)) W1 := by
    refine ⟨?_, ?_⟩
    · have := World.alloc_heap_new (w.alloc (.deferred (some []))) (.loop (R .ready none))
      rwa [World.size_alloc] at this
    · exact (Below.heap_alloc _ _ _ (by simp)).trans (World.alloc_heap_new w _)
  have hI1 : I [] W1 := hI.alloc _ (hI.alloc _ h0)
  have hb1 : Below n₀ w0 W1 := hb0.trans (((Below.refl _ w).alloc hn0 _).alloc (by simp; omega) _)
  have hFk : ∀ {o : Obj} {A B : World}, Fine o A → KeepsFrom w.heap.size A B → o.isCells = false → Fine o B := fun h k ho => ⟨k.same _ _ (by omega) h.1 ho, k.same _ _ (Nat.le_refl _) h.2 rfl⟩
  have hFp : ∀ {o o' : Obj} {A : World}, Fine o A → Fine o' (A.putObj (w.heap.size + 1) o') := fun {o o' A} h =>
    ⟨World.putObj_heap_same (Array.getElem?_eq_some_iff.1 h.1).1, (World.putObj_heap_other (by omega)).trans h.2⟩
  have hBp : ∀ {A : World} {o : Obj}, w.heap.size ≤ A.heap.size → Own n₀ (w.heap.size + 2) A (A.putObj (w.heap.size + 1) o) := fun {A o} hA =>
    ⟨(Below.refl n₀ A).grown (grownBy_putObj' A _ o) (by omega) (fun k e => by cases e; omega), fun k h1 _ => World.putObj_heap_other (by omega)⟩
  refine ⟨w.heap.size + 1, [{ target := .collected w.heap.size, args := #[] }], W1, { target := .fn (.func gf) lb, args := bd ++ #[.func (.yield (w.heap.size + 1)) #[] #[]] }, W1, gf,
    bd ++ #[.func (.yield (w.heap.size + 1)) #[] #[]] ++ lb, W1, ?_, ?_, ?_, ?_, fun _ => h1, ?_⟩
  · have := run_enterLoop_outer (P := P) (w := w) fn a.tmps ps assign body
    rw [this]
    show _ = Result.ok _ ((w.alloc (.deferred (some []))).alloc (.loop (R .ready none)))
    rw [hR']
  · simp only [resolve, hg]
    simp [go_sem]
  · intro f' hf'
    simp [Target.leads] at hf'
    subst hf'
    exact hFg
  · simp [invoke, go_sem, eg]
  · refine (hseq (w.heap.size + 1) (fun pre W => I pre W ∧ Fine (.loop (R .ready none)) W) (fun pre W => ∃ c, Ix c pre W ∧ Fine (.loop (R .done (some c))) W) W1 hb1 ?_ ?_ ⟨hI1, hF1⟩).mono ?_
    · rintro s A B ⟨hi, hf⟩ hAB
      have hlt : ∀ k o, A.heap[k]? = some o → k < A.heap.size := fun k o h => (Array.getElem?_eq_some_iff.1 h).1
      exact ⟨hI s A B none hi (hAB.grown none) (fun r e => by cases e), (hAB.block _ (hlt _ _ hf.1)).trans hf.1, (hAB.block _ (hlt _ _ hf.2)).trans hf.2⟩
    · -- one round
      rintro pre x vs rest W hxs ⟨hi, hf⟩ hex
      have hy := run_yield (P := P) (args := vs) hf.1 (by rw [hR']; exact hps x vs W hex)
      rw [hR'] at hy
      have hWs : w.heap.size ≤ W.heap.size := by have := (Array.getElem?_eq_some_iff.1 hf.1).1; omega
      refine ⟨fn, _, assign, body, hy, roundIn_of_wpIn hfn (hassign _ pre x vs W _ hi hex hWs ?_)⟩
      clear hy
      intro a' Wa hka hba hia hea hax
      have hfa := hFk hf hka rfl
      have hls : w.heap.size + 1 < Wa.heap.size := (Array.getElem?_eq_some_iff.1 hfa.1).1
      refine ⟨_, run_beginRound hfa.1 (by rw [hR']), ?_⟩
      have hf2 : Fine (.loop { R .ready none with state := .busy }) (Wa.putObj (w.heap.size + 1) (.loop { R .ready none with state := .busy })) := hFp hfa
      refine wpIn_mono (hbody _ pre x vs rest a' _ hxs (by omega) ⟨_, hf2.1⟩ (hI.putObj _ hia (by omega) hfa.1 rfl) (hE.putObj _ hea (by omega) hfa.1 rfl) ((hAx x vs a').putObj (s := ()) _ hax (by omega) hfa.1 rfl)) ?_
      have hends : ∀ (jump : Option Code) (W3 : World), KeepsFrom w.heap.size (Wa.putObj (w.heap.size + 1) (.loop { R .ready none with state := .busy })) W3 →
          (Instr.endRound (w.heap.size + 1) jump).run P W3 = .ok (.bool jump.isNone) (W3.putObj (w.heap.size + 1) (.loop (R (if jump.isNone then .ready else .done) jump))) ∧
          Fine (.loop { R .ready none with state := .busy }) W3 ∧ Fine (.loop (R (if jump.isNone then .ready else .done) jump)) (W3.putObj (w.heap.size + 1) (.loop (R (if jump.isNone then .ready else .done) jump))) := fun jump W3 hk3 => by
        have hf3 := hFk hf2 hk3 rfl
        have := run_endRound (P := P) jump hf3.1
        rw [hR'] at this
        refine ⟨?_, hf3, hFp hf3⟩
        rw [this, hR']
      rintro e a3 W3 hp
      cases e with
      | normal =>
        obtain ⟨hk3, hb3, hi3⟩ := hp
        obtain ⟨hr, hf3, hf4⟩ := hends none W3 hk3
        have h3s : w.heap.size ≤ W3.heap.size := by have := (Array.getElem?_eq_some_iff.1 hf3.1).1; omega
        exact ⟨_, _, hr, .inl ⟨rfl, ⟨hI.putObj _ hi3 (by omega) hf3.1 rfl, hf4⟩, by rw [hs1]; exact ((hba.trans (hBp (by omega))).trans hb3).trans (hBp h3s)⟩⟩
      | ret =>
        obtain ⟨hk3, hi3⟩ := hp
        obtain ⟨hr, hf3, hf4⟩ := hends (some .ret) W3 hk3
        exact ⟨_, _, hr, .inr ⟨rfl, .ret, (hIx _).putObj _ hi3 (by omega) hf3.1 rfl, hf4⟩⟩
      | exit id =>
        obtain ⟨hk3, hi3⟩ := hp
        obtain ⟨hr, hf3, hf4⟩ := hends (some (.exit id)) W3 hk3
        exact ⟨_, _, hr, .inr ⟨rfl, .exit id, (hIx _).putObj _ hi3 (by omega) hf3.1 rfl, hf4⟩⟩
      | goto t =>
        obtain ⟨hk3, hi3⟩ := hp
        obtain ⟨hr, hf3, hf4⟩ := hends (some (.goto t)) W3 hk3
        exact ⟨_, _, hr, .inr ⟨rfl, .goto t, (hIx _).putObj _ hi3 (by omega) hf3.1 rfl, hf4⟩⟩
      | panic ch => exact hp.elim
      | outgrown => exact hp.elim
    · -- behind the iterator
      rintro e W2 ⟨⟨v, rfl⟩, (⟨hi, hf⟩ | ⟨pre, x, rest, hxs, c, hi, hf⟩)⟩
      · have hr := run_endLoop (P := P) hf.1 (by rw [hR']; simp)
        rw [hR'] at hr
        exact ⟨none, _, hr, hdone _ _ (Nat.le_refl _) (hI.putObj _ hi (by omega) hf.1 rfl) ((World.putObj_heap_other (by omega)).trans hf.2)⟩
      · have hr := run_endLoop (P := P) hf.1 (by rw [hR']; simp)
        rw [hR'] at hr
        exact ⟨some c, _, hr, hstop _ c pre x rest _ (Nat.le_refl _) hxs ((hIx c).putObj _ hi (by omega) hf.1 rfl) ((World.putObj_heap_other (by omega)).trans hf.2)⟩

theorem wp_seqr {P : Program} {α : Type} {g : Operand} {ps : Array Tmp} {assign body : Code} {Q : Exit → Act → World → Prop} {a : Act} {w : World} (n : Nat)
    (h1 : 1 ≤ n) {gf : Nat} {bd lb : Array Value} (hg : a.eval g = .func (.func gf) bd lb) (eg : ∀ args w, (callFunc gf args).run P w = .ok (.enter gf args) w)
    {E : α × Array Value → World → Prop} {n₀ : Nat} {xs : List α} {w0 : World} (hseq : SeqR Fence.wide (n - 1) P gf bd lb E n₀ xs w0) (hn0 : n₀ ≤ w.heap.size) (hb0 : Below n₀ w0 w) (hps : ∀ x vs W, E (x, vs) W → vs.size = ps.size)
    (I : List α → World → Prop) (Ix : Code → List α → World → Prop) (hI : OwnFrom w.heap.size I) (hIx : ∀ c, OwnFrom w.heap.size (Ix c)) (hE : OwnFrom w.heap.size E) (h0 : I [] w) (a₁ : α → Array Value → Act)
    (hassign : ∀ (l : Nat) (x : α) (vs : Array Value) (W : World) (K : Act → World → Prop), E (x, vs) W → K (a₁ x vs) W →
      assign.wpIn (Fence.wide.inRound l) (n - 1 - 1) P (Exit.then K (fun _ _ _ => False)) { tmps := (ps.zip vs).foldl (fun t (p, v) => t.setIfInBounds p v) a.tmps, defers := [] } W)
    (hbody : ∀ (l : Nat) (pre : List α) (x : α) (vs : Array Value) (rest : List α) (W : World), xs = pre ++ x :: rest → w.heap.size ≤ l → (∃ r, W.heap[l]? = some (.loop r)) → I pre W → E (x, vs) W →
      body.wpIn (Fence.wide.inRound l) (n - 1 - 1) P (ownPostG w.heap.size (Own n₀ (w.heap.size + 2)) I Ix (pre ++ [x]) W) (a₁ x vs) W)
    (hdone : ∀ (D : Nat) (W : World), w.heap.size ≤ D → I xs W → W.heap[D]? = some (.deferred (some [])) → Q .normal { a with defers := { target := .collected D, args := #[] } :: a.defers } W)
    (hstop : ∀ (D : Nat) (c : Code) (pre : List α) (x : α) (rest : List α) (W : World), w.heap.size ≤ D → xs = pre ++ x :: rest → Ix c (pre ++ [x]) W → W.heap[D]? = some (.deferred (some [])) →
      c.wp P Q { a with defers := { target := .collected D, args := #[] } :: a.defers } W) :
    (Code.rangeFunc g ps assign body).wp P Q a w :=
  wpIn_wide.1 (wpIn_seqr (n := n) rfl h1 hg trivial eg hseq hn0 hb0 hps I Ix hI hIx hE h0 (fun x vs a' _ => a' = a₁ x vs) (fun _ _ _ _ _ _ _ hs _ _ => hs)
    (fun l pre x vs W K hi he hs hK => hassign l x vs W K he (hK _ _ (KeepsFrom.refl _ _) (Own.refl _ _ _) hi he rfl))
    (fun l pre x vs rest a' W hxs hl hr hi he ha => by subst ha; exact hbody l pre x vs rest W hxs hl hr hi he)
    hdone (fun D c pre x rest W hD hxs hi hK => wpIn_wide.2 (hstop D c pre x rest W hD hxs hi hK)))

/-- The same, a round walked at one go: its assignment, then (in the world in which the round has begun) its body. -/
theorem wp_seqr_round {P : Program} {α : Type} {g : Operand} {ps : Array Tmp} {assign body : Code} {Q : Exit → Act → World → Prop} {a : Act} {w : World} (n : Nat)
    (h1 : 1 ≤ n) {gf : Nat} {bd lb : Array Value} (hg : a.eval g = .func (.func gf) bd lb) (eg : ∀ args w, (callFunc gf args).run P w = .ok (.enter gf args) w)
    {E : α × Array Value → World → Prop} {n₀ : Nat} {xs : List α} {w0 : World} (hseq : SeqR Fence.wide (n - 1) P gf bd lb E n₀ xs w0) (hn0 : n₀ ≤ w.heap.size) (hb0 : Below n₀ w0 w) (hps : ∀ x vs W, E (x, vs) W → vs.size = ps.size)
    (I : List α → World → Prop) (Ix : Code → List α → World → Prop) (hI : OwnFrom w.heap.size I) (hIx : ∀ c, OwnFrom w.heap.size (Ix c)) (hE : OwnFrom w.heap.size E) (h0 : I [] w)
    (hround : ∀ (l : Nat) (x : α) (vs : Array Value) (W : World), E (x, vs) W →
      assign.wpIn (Fence.wide.inRound l) (n - 1 - 1) P (Exit.then (fun a' Wa => Wa = W ∧ ∀ (l : Nat) (pre rest : List α) (Wb : World), xs = pre ++ x :: rest → w.heap.size ≤ l → (∃ r, Wb.heap[l]? = some (.loop r)) → I pre Wb → E (x, vs) Wb →
        body.wpIn (Fence.wide.inRound l) (n - 1 - 1) P (ownPostG w.heap.size (Own n₀ (w.heap.size + 2)) I Ix (pre ++ [x]) Wb) a' Wb) (fun _ _ _ => False)) { tmps := (ps.zip vs).foldl (fun t (p, v) => t.setIfInBounds p v) a.tmps, defers := [] } W)
    (hdone : ∀ (D : Nat) (W : World), w.heap.size ≤ D → I xs W → W.heap[D]? = some (.deferred (some [])) → Q .normal { a with defers := { target := .collected D, args := #[] } :: a.defers } W)
    (hstop : ∀ (D : Nat) (c : Code) (pre : List α) (x : α) (rest : List α) (W : World), w.heap.size ≤ D → xs = pre ++ x :: rest → Ix c (pre ++ [x]) W → W.heap[D]? = some (.deferred (some [])) →
      c.wp P Q { a with defers := { target := .collected D, args := #[] } :: a.defers } W) :
    (Code.rangeFunc g ps assign body).wp P Q a w :=
  wpIn_wide.1 (wpIn_seqr (n := n) rfl h1 hg trivial eg hseq hn0 hb0 hps I Ix hI hIx hE h0
    (fun x vs a' _ => ∀ (l : Nat) (pre rest : List α) (Wb : World), xs = pre ++ x :: rest → w.heap.size ≤ l → (∃ r, Wb.heap[l]? = some (.loop r)) → I pre Wb → E (x, vs) Wb →
        body.wpIn (Fence.wide.inRound l) (n - 1 - 1) P (ownPostG w.heap.size (Own n₀ (w.heap.size + 2)) I Ix (pre ++ [x]) Wb) a' Wb)
    (fun _ _ _ _ _ _ _ hs _ _ => hs)
    (fun l pre x vs W K hi he hs hK => wpIn_mono (hround l x vs W he) (fun e a' Wa hp => by
      cases e with
      | normal => obtain ⟨rfl, hx⟩ := hp; exact hK a' _ (KeepsFrom.refl _ _) (Own.refl _ _ _) hi he hx
      | ret => exact hp
      | exit id => exact hp
      | goto t => exact hp
      | panic ch => exact hp
      | outgrown => exact hp))
    (fun l pre x vs rest a' W hxs hl hr hi he ha => ha l pre rest W hxs hl hr hi he)
    hdone (fun D c pre x rest W hD hxs hi hK => wpIn_wide.2 (hstop D c pre x rest W hD hxs hi hK)))
end Go.Proofs.YtiajggmnfaidjaaGreatDoor
