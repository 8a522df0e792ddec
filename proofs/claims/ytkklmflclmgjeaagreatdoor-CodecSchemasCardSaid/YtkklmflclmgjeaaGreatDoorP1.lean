/-
  The texts of the schema and of the codec, one behind the other: part 1.
-/
import Derived.Test.YtkklmflclmgjeaaGreatDoorRows
import Derived.WalkKit
import Derived.WalkSpells
import Derived.WalkLawsBesides
import Derived.Deep.QuietTactic
import Derived.Deep.Draws
import Derived.BigQuiet
import Derived.Lib.Hide
import Derived.ScopeJumps
import Derived.WalkMore
import Derived.RangeFuncNested
import Derived.RangeFuncBound
import Derived.RangeFuncCalls
import Derived.RangeFuncLeaves
import Derived.Shelf.Abstract
import Derived.Shelf.RegionOpen
import Derived.OwnWalkIn
import Derived.TacticsInMore
import Derived.LoopNIn
import Derived.LoopIn
import Derived.Below
import Derived.Laws.OwnMore
import Derived.Deep.AppendLies
import Derived.Laws.Rows
import Derived.Maps.AppendAt
import Derived.RegionTactic
import Derived.OwnWalk
import Derived.Maps.RangeRun
import Derived.LaidEql
import Derived.Stop.Asserts
import Derived.RowKitTokens
import Derived.Lib.OthersKept
import Derived.Lib.TrimU
import Derived.Deep.LoopGhost
import Derived.Laws.EntriesVeiled
import Derived.StillTailTactics
import Derived.Deep.RegionHeld3
/-
  Small plain lemmas of my own: frames of worlds below the heap's size, and endings.
-/
set_option linter.unusedVariables false
set_option linter.unusedSimpArgs false
set_option linter.unusedVariables false
set_option linter.unusedSimpArgs false
namespace Go.Proofs.YtkklmflclmgjeaaGreatDoor
open Go.RowKit

theorem ret_bool {a b : Bool} (h : a = b) : Ending.returned (.bool a) = Ending.returned (.bool b) := by rw [h]
theorem ret_int {k : IntKind} {a b : Int} (h : a = b) : Ending.returned (.int k a) = Ending.returned (.int k b) := by rw [h]

/-- Of what was there nothing has turned. -/
abbrev Bel (w w' : World) : Prop := Below w.heap.size w w'
theorem Bel.refl (w : World) : Bel w w := Below.refl _ _
theorem Bel.alloc {w W : World} (h : Bel w W) (o : Obj) : Bel w (W.alloc o) := Below.alloc h h.size o
theorem Bel.drew {w W : World} (h : Bel w W) : Bel w W.drew := Below.drew h
theorem Bel.drewN {w W : World} (h : Bel w W) (n : Nat) : Bel w (W.drewN n) := ⟨h.os, h.tape, h.output, h.size, h.block⟩
theorem Bel.then_ {w W W' : World} (h : Bel w W) (h' : Bel W W') : Bel w W' := Below.trans h (Below.mono h' h.size)
theorem Bel.setCell {w W : World} (h : Bel w W) {p : Addr} (hp : w.heap.size ≤ p.block) (u : Value) : Bel w (W.setCell p u) := Below.setCell h hp u
/-- What the walk wants of a world behind a call. -/
theorem bcell {W w1 : World} (hb : Bel W w1) : (∀ b o, b < W.heap.size → w1.cell? ⟨b, o, none⟩ = W.cell? ⟨b, o, none⟩) ∧ (∀ b o, b < W.heap.size → w1.frozen? ⟨b, o, none⟩ = W.frozen? ⟨b, o, none⟩) ∧ W.heap.size ≤ w1.heap.size :=
  ⟨fun b o h => Below.cell hb (p := ⟨b, o, none⟩) h, fun b o h => Below.frozen hb (p := ⟨b, o, none⟩) h, hb.size⟩

/-- A scope in which the run may jump forward to one label, and jumps no more behind it. -/
theorem wp_scope_forward {P : Program} {Q : Exit → Act → World → Prop} {a : Act} {w : World} {c rest : Code} (l : Nat) (hf : findLabel c l = some rest)
    (h : c.wp P (Exit.jump l (fun a' w' => rest.wp P (Exit.noGoto Q) a' w') Q) a w) : (Code.scope c).wp P Q a w :=
  wp_scope_jumps l _ (fun _ _ => 0) hf h fun _ _ hJ => wp_mono hJ fun e _ _ hq => by
    cases e with
    | goto l' => exact hq.elim
    | normal => exact hq
    | exit id => exact hq
    | ret => exact hq
    | panic ch => exact hq
    | outgrown => exact hq
theorem jump_goto {Q : Exit → Act → World → Prop} {J : Act → World → Prop} {a : Act} {w : World} (l : Nat) (h : J a w) : Exit.jump l J Q (.goto l) a w := ⟨rfl, h⟩
@[go_sem] theorem jump_ret {Q : Exit → Act → World → Prop} {J : Act → World → Prop} {a : Act} {w : World} (l : Nat) : Exit.jump l J Q .ret a w = Q .ret a w := rfl
@[go_sem] theorem jump_normal {Q : Exit → Act → World → Prop} {J : Act → World → Prop} {a : Act} {w : World} (l : Nat) : Exit.jump l J Q .normal a w = Q .normal a w := rfl
@[go_sem] theorem jump_exit {Q : Exit → Act → World → Prop} {J : Act → World → Prop} {a : Act} {w : World} (l id : Nat) : Exit.jump l J Q (.exit id) a w = Q (.exit id) a w := rfl
end Go.Proofs.YtkklmflclmgjeaaGreatDoor

/-
  A range over a function that goes over a known list: what the iterator's contract says (SeqE), and the law for the loop (wpIn_seq). Beside the library's laws: a round knows which element it is handed, and what that element reads as in memory (E).
-/
set_option linter.unusedVariables false
set_option linter.unusedSimpArgs false
set_option linter.unusedVariables false
set_option linter.unusedSimpArgs false
namespace Go.Proofs.YtkklmflclmgjeaaGreatDoor
open Go.RowKit Go.Shelf

/-- Whatever grows a world without a turn of what there is. -/
theorem Bel.grown {A B : World} (h : Bel A B) (row : Option Nat) : A.grownBy B row := ⟨h.os, h.tape, h.output, h.size, fun i hi _ => h.block i hi⟩

/-- The closure gf with lb captured goes over xs, in order; it leaves when a round says 'no more'. E: what an element reads as, when it is handed over. -/
def SeqE {α : Type} (F : Fence) (n : Nat) (P : Program) (gf : Nat) (lb : Array Value) (enc : α → Array Value) (E : α → World → Prop) (n₀ : Nat) (xs : List α) (w0 : World) : Prop :=
  ∀ (l : Nat) (J Jx : List α → World → Prop) (W : World), Below n₀ w0 W → (∀ s A B, J s A → Bel A B → J s B) →
    (∀ pre x rest W1, xs = pre ++ x :: rest → J pre W1 → E x W1 → YieldAt F (n - 1) P l (enc x) W1 fun e W' =>
      (e = .returned (.bool true) ∧ J (pre ++ [x]) W' ∧ Below n₀ W1 W') ∨ (e = .returned (.bool false) ∧ Jx (pre ++ [x]) W')) →
    J [] W →
    CallsIn F n P gf (#[.func (.yield l) #[] #[]] ++ lb) W fun e W' => (∃ v, e = .returned v) ∧ (J xs W' ∨ ∃ pre x rest, xs = pre ++ x :: rest ∧ Jx (pre ++ [x]) W')

variable {F : Fence} {n : Nat} {P : Program}

theorem wpIn_seq {α : Type} {g : Operand} {ps : Array Tmp} {assign body : Code} {Q : Exit → Act → World → Prop} {a : Act} {w : World}
    (hro : F.round = none) (h1 : 1 ≤ n) {gf : Nat} {lb : Array Value} (hg : a.eval g = .func (.func gf) #[] lb) (hFg : F.fn gf) (eg : ∀ args w, (callFunc gf args).run P w = .ok (.enter gf args) w)
    {enc : α → Array Value} {E : α → World → Prop} {n₀ : Nat} {xs : List α} {w0 : World} (hseq : SeqE F (n - 1) P gf lb enc E n₀ xs w0) (hn0 : n₀ ≤ w.heap.size) (hb0 : Below n₀ w0 w) (hps : ∀ x, (enc x).size = ps.size)
    (I : List α → World → Prop) (Ix : Code → List α → World → Prop) (hI : OwnFrom w.heap.size I) (hIx : ∀ c, OwnFrom w.heap.size (Ix c)) (hE : OwnFrom w.heap.size E) (h0 : I [] w)
    (Ax : α → Act → World → Prop) (hAx : ∀ x a', OwnFrom w.heap.size (fun (_ : Unit) W => Ax x a' W))
    (hassign : ∀ (l : Nat) (pre : List α) (x : α) (W : World) (K : Act → World → Prop), I pre W → E x W → w.heap.size ≤ W.heap.size → (∀ a' W', KeepsFrom w.heap.size W W' → Below n₀ W W' → I pre W' → E x W' → Ax x a' W' → K a' W') →
      assign.wpIn (F.inRound l) (n - 1 - 1) P (Exit.then K (fun _ _ _ => False)) { tmps := (ps.zip (enc x)).foldl (fun t (p, v) => t.setIfInBounds p v) a.tmps, defers := [] } W)
    (hbody : ∀ (l : Nat) (pre : List α) (x : α) (rest : List α) (a' : Act) (W : World), xs = pre ++ x :: rest → w.heap.size ≤ l → (∃ r, W.heap[l]? = some (.loop r)) → I pre W → E x W → Ax x a' W →
      body.wpIn (F.inRound l) (n - 1 - 1) P (ownPostG w.heap.size (Below n₀) I Ix (pre ++ [x]) W) a' W)
    (hdone : ∀ (D : Nat) (W : World), w.heap.size ≤ D → I xs W → W.heap[D]? = some (.deferred (some [])) → Q .normal { a with defers := { target := .collected D, args := #[] } :: a.defers } W)
    (hstop : ∀ (D : Nat) (c : Code) (pre : List α) (x : α) (rest : List α) (W : World), w.heap.size ≤ D → xs = pre ++ x :: rest → Ix c (pre ++ [x]) W → W.heap[D]? = some (.deferred (some [])) →
      c.wpIn F n P Q { a with defers := { target := .collected D, args := #[] } :: a.defers } W) :
    (Code.rangeFunc g ps assign body).wpIn F n P Q a w := by
  refine wpIn_rangeFunc fun fn hfn => ?_
  rw [hro]
  -- the record of the loop, and the block of the rounds' deferred calls
  generalize hR : (fun st pe => ({ state := st, pending := pe, fn, tmps := a.tmps, params := ps, assign, body, defers := w.heap.size } : Loop)) = R
  have hR' : ∀ st pe, R st pe = { state := st, pending := pe, fn, tmps := a.tmps, params := ps, assign, body, defers := w.heap.size } := fun st pe => by rw [← hR]
  let W1 := (w.alloc (.deferred (some []))).alloc (.loop (R .ready none))
  let Fine : Obj → World → Prop := fun o W => W.heap[w.heap.size + 1]? = some o ∧ W.heap[w.heap.size]? = some (.deferred (some []))
  have hs1 : W1.heap.size = w.heap.size + 2 := by simp [W1]
  have hF1 : Fine (.loop (R .ready none)) W1 := by
    refine ⟨?_, ?_⟩
    · have := World.alloc_heap_new (w.alloc (.deferred (some []))) (.loop (R .ready none))
      rwa [World.size_alloc] at this
    · exact (Below.heap_alloc _ _ _ (by simp)).trans (World.alloc_heap_new w _)
  have hI1 : I [] W1 := hI.alloc _ (hI.alloc _ h0)
  have hb1 : Below n₀ w0 W1 := hb0.trans (((Below.refl _ w).alloc hn0 _).alloc (by simp; omega) _)
  have hFk : ∀ {o : Obj} {A B : World}, Fine o A → KeepsFrom w.heap.size A B → o.isCells = false → Fine o B := fun h k ho => ⟨k.same _ _ (by omega) h.1 ho, k.same _ _ (Nat.le_refl _) h.2 rfl⟩
  have hFp : ∀ {o o' : Obj} {A : World}, Fine o A → Fine o' (A.putObj (w.heap.size + 1) o') := fun {o o' A} h =>
    ⟨World.putObj_heap_same (Array.getElem?_eq_some_iff.1 h.1).1, (World.putObj_heap_other (by omega)).trans h.2⟩
  have hBp : ∀ {A : World} {o : Obj}, w.heap.size ≤ A.heap.size → Below n₀ A (A.putObj (w.heap.size + 1) o) := fun {A o} hA =>
    (Below.refl n₀ A).grown (grownBy_putObj' A _ o) (by omega) (fun k e => by cases e; omega)
  refine ⟨w.heap.size + 1, [{ target := .collected w.heap.size, args := #[] }], W1, { target := .fn (.func gf) lb, args := #[.func (.yield (w.heap.size + 1)) #[] #[]] }, W1, gf,
    #[.func (.yield (w.heap.size + 1)) #[] #[]] ++ lb, W1, ?_, ?_, ?_, ?_, fun _ => h1, ?_⟩
  · have := run_enterLoop_outer (P := P) (w := w) fn a.tmps ps assign body
    rw [this]
    show _ = Result.ok _ ((w.alloc (.deferred (some []))).alloc (.loop (R .ready none)))
    rw [hR']
  · simp only [resolve, hg]
    simp [go_sem]
  · intro f' hf'
    simp [Target.leads] at hf'
    subst hf'
    exact hFg
  · simp [invoke, go_sem, eg]
  · refine (hseq (w.heap.size + 1) (fun pre W => I pre W ∧ Fine (.loop (R .ready none)) W) (fun pre W => ∃ c, Ix c pre W ∧ Fine (.loop (R .done (some c))) W) W1 hb1 ?_ ?_ ⟨hI1, hF1⟩).mono ?_
    · rintro s A B ⟨hi, hf⟩ hAB
      have hlt : ∀ k o, A.heap[k]? = some o → k < A.heap.size := fun k o h => (Array.getElem?_eq_some_iff.1 h).1
      exact ⟨hI s A B none hi (hAB.grown none) (fun r e => by cases e), (hAB.block _ (hlt _ _ hf.1)).trans hf.1, (hAB.block _ (hlt _ _ hf.2)).trans hf.2⟩
    · -- one round
      rintro pre x rest W hxs ⟨hi, hf⟩ hex
      have hy := run_yield (P := P) (args := enc x) hf.1 (by rw [hR']; exact hps x)
      rw [hR'] at hy
      have hWs : w.heap.size ≤ W.heap.size := by have := (Array.getElem?_eq_some_iff.1 hf.1).1; omega
      refine ⟨fn, _, assign, body, hy, roundIn_of_wpIn hfn (hassign _ pre x W _ hi hex hWs ?_)⟩
      clear hy
      intro a' Wa hka hba hia hea hax
      have hfa := hFk hf hka rfl
      have hls : w.heap.size + 1 < Wa.heap.size := (Array.getElem?_eq_some_iff.1 hfa.1).1
      refine ⟨_, run_beginRound hfa.1 (by rw [hR']), ?_⟩
      have hf2 : Fine (.loop { R .ready none with state := .busy }) (Wa.putObj (w.heap.size + 1) (.loop { R .ready none with state := .busy })) := hFp hfa
      refine wpIn_mono (hbody _ pre x rest a' _ hxs (by omega) ⟨_, hf2.1⟩ (hI.putObj _ hia (by omega) hfa.1 rfl) (hE.putObj _ hea (by omega) hfa.1 rfl) ((hAx x a').putObj (s := ()) _ hax (by omega) hfa.1 rfl)) ?_
      have hends : ∀ (jump : Option Code) (W3 : World), KeepsFrom w.heap.size (Wa.putObj (w.heap.size + 1) (.loop { R .ready none with state := .busy })) W3 →
          (Instr.endRound (w.heap.size + 1) jump).run P W3 = .ok (.bool jump.isNone) (W3.putObj (w.heap.size + 1) (.loop (R (if jump.isNone then .ready else .done) jump))) ∧
          Fine (.loop { R .ready none with state := .busy }) W3 ∧ Fine (.loop (R (if jump.isNone then .ready else .done) jump)) (W3.putObj (w.heap.size + 1) (.loop (R (if jump.isNone then .ready else .done) jump))) := fun jump W3 hk3 => by
        have hf3 := hFk hf2 hk3 rfl
        have := run_endRound (P := P) jump hf3.1
        rw [hR'] at this
        refine ⟨?_, hf3, hFp hf3⟩
        rw [this, hR']
      rintro e a3 W3 hp
      cases e with
      | normal =>
        obtain ⟨hk3, hb3, hi3⟩ := hp
        obtain ⟨hr, hf3, hf4⟩ := hends none W3 hk3
        have h3s : w.heap.size ≤ W3.heap.size := by have := (Array.getElem?_eq_some_iff.1 hf3.1).1; omega
        exact ⟨_, _, hr, .inl ⟨rfl, ⟨hI.putObj _ hi3 (by omega) hf3.1 rfl, hf4⟩, ((hba.trans (hBp (by omega))).trans hb3).trans (hBp h3s)⟩⟩
      | ret =>
        obtain ⟨hk3, hi3⟩ := hp
        obtain ⟨hr, hf3, hf4⟩ := hends (some .ret) W3 hk3
        exact ⟨_, _, hr, .inr ⟨rfl, .ret, (hIx _).putObj _ hi3 (by omega) hf3.1 rfl, hf4⟩⟩
      | exit id =>
        obtain ⟨hk3, hi3⟩ := hp
        obtain ⟨hr, hf3, hf4⟩ := hends (some (.exit id)) W3 hk3
        exact ⟨_, _, hr, .inr ⟨rfl, .exit id, (hIx _).putObj _ hi3 (by omega) hf3.1 rfl, hf4⟩⟩
      | goto t =>
        obtain ⟨hk3, hi3⟩ := hp
        obtain ⟨hr, hf3, hf4⟩ := hends (some (.goto t)) W3 hk3
        exact ⟨_, _, hr, .inr ⟨rfl, .goto t, (hIx _).putObj _ hi3 (by omega) hf3.1 rfl, hf4⟩⟩
      | panic ch => exact hp.elim
      | outgrown => exact hp.elim
    · -- behind the iterator
      rintro e W2 ⟨⟨v, rfl⟩, (⟨hi, hf⟩ | ⟨pre, x, rest, hxs, c, hi, hf⟩)⟩
      · have hr := run_endLoop (P := P) hf.1 (by rw [hR']; simp)
        rw [hR'] at hr
        exact ⟨none, _, hr, hdone _ _ (Nat.le_refl _) (hI.putObj _ hi (by omega) hf.1 rfl) ((World.putObj_heap_other (by omega)).trans hf.2)⟩
      · have hr := run_endLoop (P := P) hf.1 (by rw [hR']; simp)
        rw [hR'] at hr
        exact ⟨some c, _, hr, hstop _ c pre x rest _ (Nat.le_refl _) hxs ((hIx c).putObj _ hi (by omega) hf.1 rfl) ((World.putObj_heap_other (by omega)).trans hf.2)⟩

/-- The same at the wide fence, where no loop variable is boxed: a₁ x is the activation with which a round begins. -/
theorem wp_seq {P : Program} {α : Type} {g : Operand} {ps : Array Tmp} {assign body : Code} {Q : Exit → Act → World → Prop} {a : Act} {w : World} (n : Nat)
    (h1 : 1 ≤ n) {gf : Nat} {lb : Array Value} (hg : a.eval g = .func (.func gf) #[] lb) (eg : ∀ args w, (callFunc gf args).run P w = .ok (.enter gf args) w)
    {enc : α → Array Value} {E : α → World → Prop} {n₀ : Nat} {xs : List α} {w0 : World} (hseq : SeqE Fence.wide (n - 1) P gf lb enc E n₀ xs w0) (hn0 : n₀ ≤ w.heap.size) (hb0 : Below n₀ w0 w) (hps : ∀ x, (enc x).size = ps.size)
    (I : List α → World → Prop) (Ix : Code → List α → World → Prop) (hI : OwnFrom w.heap.size I) (hIx : ∀ c, OwnFrom w.heap.size (Ix c)) (hE : OwnFrom w.heap.size E) (h0 : I [] w) (a₁ : α → Act)
    (hassign : ∀ (l : Nat) (x : α) (W : World) (K : Act → World → Prop), K (a₁ x) W →
      assign.wpIn (Fence.wide.inRound l) (n - 1 - 1) P (Exit.then K (fun _ _ _ => False)) { tmps := (ps.zip (enc x)).foldl (fun t (p, v) => t.setIfInBounds p v) a.tmps, defers := [] } W)
    (hbody : ∀ (l : Nat) (pre : List α) (x : α) (rest : List α) (W : World), xs = pre ++ x :: rest → w.heap.size ≤ l → (∃ r, W.heap[l]? = some (.loop r)) → I pre W → E x W →
      body.wpIn (Fence.wide.inRound l) (n - 1 - 1) P (ownPostG w.heap.size (Below n₀) I Ix (pre ++ [x]) W) (a₁ x) W)
    (hdone : ∀ (D : Nat) (W : World), w.heap.size ≤ D → I xs W → W.heap[D]? = some (.deferred (some [])) → Q .normal { a with defers := { target := .collected D, args := #[] } :: a.defers } W)
    (hstop : ∀ (D : Nat) (c : Code) (pre : List α) (x : α) (rest : List α) (W : World), w.heap.size ≤ D → xs = pre ++ x :: rest → Ix c (pre ++ [x]) W → W.heap[D]? = some (.deferred (some [])) →
      c.wp P Q { a with defers := { target := .collected D, args := #[] } :: a.defers } W) :
    (Code.rangeFunc g ps assign body).wp P Q a w :=
  wpIn_wide.1 (wpIn_seq (n := n) rfl h1 hg trivial eg hseq hn0 hb0 hps I Ix hI hIx hE h0 (fun x a' _ => a' = a₁ x) (fun _ _ _ _ _ _ hs _ _ => hs)
    (fun l pre x W K hi he hs hK => hassign l x W K (hK _ _ (KeepsFrom.refl _ _) (Below.refl _ _) hi he rfl))
    (fun l pre x rest a' W hxs hl hr hi he ha => by subst ha; exact hbody l pre x rest W hxs hl hr hi he)
    hdone (fun D c pre x rest W hD hxs hi hK => wpIn_wide.2 (hstop D c pre x rest W hD hxs hi hK)))

/-- At the wide fence: a scope that is gone through without a goto. -/
theorem wpIn_scope_wide {P : Program} {n : Nat} {Q : Exit → Act → World → Prop} {a : Act} {w : World} {c : Code} (h : c.wpIn Fence.wide n P (Exit.noGoto Q) a w) : (Code.scope c).wpIn Fence.wide n P Q a w :=
  wpIn_wide.2 (wp_scope_straight (wpIn_wide.1 h))
/-- A function's contract from its body by the plain walk, where the body holds a range over a function. -/
theorem calls_of_wp_marks {P : Program} (n : Nat) {f : FuncId} {fn : Func} {c : Code} {args : Array Value} {w : World} {R : Ending → World → Prop} (hf : P.funcs[f]? = some fn) (hb : fn.body = some c)
    (h : c.wp P (bodyPostM Fence.wide n P fn R) { tmps := args ++ Array.replicate (fn.ntmps - args.size) undef, defers := [] } w) : Calls P f args w R :=
  callsIn_wide.1 (callsIn_of_wp_marks (n := n) hf hb trivial (wpIn_wide.2 h) rfl)
end Go.Proofs.YtkklmflclmgjeaaGreatDoor

/-
  A range over a function whose body counts its rounds in one boxed variable, and may leave behind a round: the law for the loop (wp_count).
-/
set_option linter.unusedVariables false
set_option linter.unusedSimpArgs false
set_option linter.unusedVariables false
set_option linter.unusedSimpArgs false
namespace Go.Proofs.YtkklmflclmgjeaaGreatDoor
open Go.RowKit Go.Shelf

theorem Below.c {B : Nat} {w w' : World} (h : Below B w w') {p : Addr} {v : Value} (hc : w.cell? p = some v) (hp : p.block < B) : w'.cell? p = some v := (Below.cell h hp).trans hc
theorem Bel.c {w w' : World} (h : Bel w w') {p : Addr} {v : Value} (hc : w.cell? p = some v) : w'.cell? p = some v := (Below.cell h (World.block_lt_of_cell? (w := w) (a := p) hc)).trans hc
theorem Bel.f {w w' : World} (h : Bel w w') {p : Addr} {v : Value} (hc : w.cell? p = some v) (hf : w.frozen? p = false) : w'.frozen? p = false := (Below.frozen h (World.block_lt_of_cell? (w := w) (a := p) hc)).trans hf
theorem grown_c {w w' : World} {row : Option Nat} (h : w.grownBy w' row) {p : Addr} {v : Value} (hc : w.cell? p = some v) (hp : some p.block ≠ row) : w'.cell? p = some v := h.cell hc hp
theorem grown_f {w w' : World} {row : Option Nat} (h : w.grownBy w' row) {p : Addr} {v : Value} (hc : w.cell? p = some v) (hf : w.frozen? p = false) (hp : some p.block ≠ row) : w'.frozen? p = false :=
  (World.frozen?_of_block (h.block _ (World.block_lt_of_cell? (w := w) (a := p) hc) hp)).trans hf
theorem grown_trans {a b c : World} {row : Option Nat} (h : a.grownBy b row) (k : b.grownBy c row) : a.grownBy c row :=
  ⟨k.os.trans h.os, k.tape.trans h.tape, k.output.trans h.output, Nat.le_trans h.size k.size, fun i hi hr => (k.block i (Nat.lt_of_lt_of_le hi h.size) hr).trans (h.block i hi hr)⟩
theorem grown_refl (w : World) (row : Option Nat) : w.grownBy w row := ⟨rfl, rfl, rfl, Nat.le_refl _, fun _ _ _ => rfl⟩
theorem grown_setCell (w : World) (p : Addr) (v : Value) : w.grownBy (w.setCell p v) (some p.block) := ⟨rfl, rfl, rfl, by simp, fun i _ hr => Below.heap_setCell _ _ _ _ (fun e => hr (by rw [e]))⟩
theorem Bel.grownBy {w w' : World} (h : Bel w w') (row : Option Nat) : w.grownBy w' row := ⟨h.os, h.tape, h.output, h.size, fun i hi _ => h.block i hi⟩
theorem grown_alloc {a b : World} {row : Option Nat} (h : a.grownBy b row) (o : Obj) : a.grownBy (b.alloc o) row := grown_trans h (World.grownBy_alloc b o row)

/-- How many rounds there were: all, none of which left; or so many, the last of which left. -/
def Count (stops : Nat → Bool) (n k : Nat) : Prop :=
  (k = n ∧ ∀ j, 1 ≤ j → j ≤ n → stops j = false) ∨ (1 ≤ k ∧ k ≤ n ∧ stops k = true ∧ ∀ j, 1 ≤ j → j < k → stops j = false)
theorem Count.all {n k : Nat} (h : Count (fun _ => false) n k) : k = n := by
  rcases h with h | h
  · exact h.1
  · simp at h
theorem Count.upto {n k : Nat} {many : Int} (h : Count (fun j => decide ((j : Int) ≥ many)) n k) : (k : Int) = min (n : Int) (max 1 many) := by
  rcases h with ⟨rfl, h⟩ | ⟨h1, h2, h3, h4⟩
  · by_cases hk : k = 0
    · omega
    · have := h k (by omega) (Nat.le_refl _)
      simp at this
      omega
  · simp at h3
    by_cases hk : k = 1
    · omega
    · have := h4 (k - 1) (by omega) (by omega)
      simp at this
      omega

theorem ownFrom_grown {β : Type} {w : World} (row : Nat) : OwnFrom w.heap.size (fun (_ : β) W => w.grownBy W (some row)) := by
  intro s W W' row' hs hg hr
  refine ⟨hg.os.trans hs.os, hg.tape.trans hs.tape, hg.output.trans hs.output, Nat.le_trans hs.size hg.size, fun i hi hne => ?_⟩
  refine (hg.block i (Nat.lt_of_lt_of_le hi hs.size) (fun e => ?_)).trans (hs.block i hi hne)
  have := (hr i e.symm).1
  omega

theorem wp_count {P : Program} {α : Type} {g : Operand} {ps : Array Tmp} {assign body : Code} {Q : Exit → Act → World → Prop} {a : Act} {w : World} (n : Nat)
    (h1 : 1 ≤ n) {gf : Nat} {lb : Array Value} (hg : a.eval g = .func (.func gf) #[] lb) (eg : ∀ args w, (callFunc gf args).run P w = .ok (.enter gf args) w)
    {enc : α → Array Value} {E : α → World → Prop} {n₀ : Nat} {xs : List α} {w0 : World} (hseq : SeqE Fence.wide (n - 1) P gf lb enc E n₀ xs w0) (hn0 : n₀ ≤ w.heap.size) (hb0 : Below n₀ w0 w) (hps : ∀ x, (enc x).size = ps.size) (hE : OwnFrom w.heap.size E)
    (Bn : Nat) (hB0 : n₀ ≤ Bn) (hBw : Bn < w.heap.size) (hc : w.cell? ⟨Bn, 0, none⟩ = some (.int .i64 0)) (hf : w.frozen? ⟨Bn, 0, none⟩ = false) (id : Nat) (stops : Nat → Bool) (a₁ : α → Act)
    (hassign : ∀ (l : Nat) (x : α) (W : World) (K : Act → World → Prop), K (a₁ x) W →
      assign.wpIn (Fence.wide.inRound l) (n - 1 - 1) P (Exit.then K (fun _ _ _ => False)) { tmps := (ps.zip (enc x)).foldl (fun t (p, v) => t.setIfInBounds p v) a.tmps, defers := [] } W)
    (hbody : ∀ (l k : Nat) (x : α) (W : World), xs[k]? = some x → w.heap.size ≤ l → E x W → w.grownBy W (some Bn) → W.cell? ⟨Bn, 0, none⟩ = some (.int .i64 k) → W.frozen? ⟨Bn, 0, none⟩ = false →
      body.wpIn (Fence.wide.inRound l) (n - 1 - 1) P (fun e _ W' => W.grownBy W' (some Bn) ∧ W'.cell? ⟨Bn, 0, none⟩ = some (.int .i64 (k + 1)) ∧ W'.frozen? ⟨Bn, 0, none⟩ = false ∧ (e = .normal ∧ stops (k + 1) = false ∨ e = .exit id ∧ stops (k + 1) = true)) (a₁ x) W)
    (hex : ∀ (a : Act) (W : World), Q .normal a W → Q (.exit id) a W)
    (hout : ∀ (D k : Nat) (W : World), Count stops xs.length k → w.heap.size ≤ D → w.grownBy W (some Bn) → W.cell? ⟨Bn, 0, none⟩ = some (.int .i64 k) → W.heap[D]? = some (.deferred (some [])) →
      Q .normal { a with defers := { target := .collected D, args := #[] } :: a.defers } W) :
    (Code.rangeFunc g ps assign body).wp P Q a w := by
  refine wp_seq n h1 hg eg hseq hn0 hb0 hps
    (fun pre W => ((W.cell? ⟨Bn, 0, none⟩ = some (.int .i64 pre.length) ∧ W.frozen? ⟨Bn, 0, none⟩ = false) ∧ (∀ j, 1 ≤ j → j ≤ pre.length → stops j = false)) ∧ w.grownBy W (some Bn))
    (fun c pre W => ((W.cell? ⟨Bn, 0, none⟩ = some (.int .i64 pre.length) ∧ W.frozen? ⟨Bn, 0, none⟩ = false) ∧ (c = .exit id ∧ stops pre.length = true ∧ ∀ j, 1 ≤ j → j < pre.length → stops j = false)) ∧ w.grownBy W (some Bn))
    ?hI ?hIx hE ?h0 a₁ hassign ?body ?done ?stop
  case hI =>
    refine OwnFrom.and (fun pre A B row hs hg hr => ?_) (ownFrom_grown Bn)
    exact ⟨⟨cell_kept hs.1.1 hg (fun r e => (hr r e).2), (frozen_kept hs.1.1 hg (fun r e => (hr r e).2)).trans hs.1.2⟩, hs.2⟩
  case hIx =>
    intro c
    refine OwnFrom.and (fun pre A B row hs hg hr => ?_) (ownFrom_grown Bn)
    exact ⟨⟨cell_kept hs.1.1 hg (fun r e => (hr r e).2), (frozen_kept hs.1.1 hg (fun r e => (hr r e).2)).trans hs.1.2⟩, hs.2⟩
  case h0 => exact ⟨⟨⟨hc, hf⟩, fun j h1 h2 => by simp at h2; omega⟩, grown_refl _ _⟩
  case body =>
    intro l pre x rest W hxs hl hr hi he
    obtain ⟨⟨⟨hc1, hf1⟩, hst⟩, hgw⟩ := hi
    refine wpIn_mono (hbody l pre.length x W (by rw [hxs]; simp) hl he hgw hc1 hf1) ?_
    rintro e a' W' ⟨hg', hc', hf', hx⟩
    have hk : KeepsFrom w.heap.size W W' := KeepsFrom.of_grownBy hg' (fun j e => by cases e; exact hBw)
    have hb : Below n₀ W W' := (Below.refl _ _).grown hg' (Nat.le_trans hn0 hgw.size) (fun j e => by cases e; exact hB0)
    rcases hx with ⟨rfl, hs⟩ | ⟨rfl, hs⟩
    · refine ⟨hk, hb, ⟨⟨by rw [hc']; simp, hf'⟩, fun j h1 h2 => ?_⟩, grown_trans hgw hg'⟩
      simp at h2
      by_cases hj : j = pre.length + 1
      · rw [hj]; exact hs
      · exact hst j h1 (by omega)
    · refine ⟨hk, ⟨⟨by rw [hc']; simp, hf'⟩, rfl, by simpa using hs, fun j h1 h2 => ?_⟩, grown_trans hgw hg'⟩
      simp at h2
      exact hst j h1 (by omega)
  case done =>
    intro D W hD hi hdf
    exact hout D xs.length W (.inl ⟨rfl, hi.1.2⟩) hD hi.2 hi.1.1.1 hdf
  case stop =>
    intro D c pre x rest W hD hxs hi hdf
    obtain ⟨⟨⟨hc1, hf1⟩, rfl, hs, hst⟩, hgw⟩ := hi
    apply wp_exit
    exact hex _ _ (hout D (pre ++ [x]).length W (.inr ⟨by simp, by rw [hxs]; simp, hs, hst⟩) hD hgw hc1 hdf)
theorem Bel.putObj {w w' : World} (h : Bel w w') {D : Nat} (hD : w.heap.size ≤ D) (o : Obj) : Bel w (w'.putObj D o) := Below.grown h (grownBy_putObj' w' D o) h.size (fun k e => by cases e; exact hD)
theorem ite_max (x y : Int) : (if x < y then y else x) = max x y := by omega
theorem ite_min (x y : Int) : (if y < x then y else x) = min x y := by omega
theorem leavesM_collected {F : Fence} {n : Nat} {P : Program} {fn : Func} {tmps : Array Value} {R : Ending → World → Prop} {D : Nat} {ds : List Deferred} {w : World} (h : w.heap[D]? = some (.deferred (some [])))
    (h' : LeavesInM F n P fn tmps R ds .returning (w.putObj D (.deferred none))) : LeavesInM F n P fn tmps R ({ target := .collected D, args := #[] } :: ds) .returning w :=
  ⟨by simp, .inl ⟨_, _, rfl, run_takeDeferred h, h'⟩⟩
theorem leavesM_nil {F : Fence} {n : Nat} {P : Program} {fn : Func} {tmps : Array Value} {R : Ending → World → Prop} {v : Value} {w : World} (h : (results fn tmps).run P w = .ok v w) (h' : R (.returned v) w) :
    LeavesInM F n P fn tmps R [] .returning w := ⟨v, h, h'⟩
theorem putObj_deferred {w : World} {D D' : Nat} {o : Obj} (h : w.heap[D]? = some o) (hne : D ≠ D') (o' : Obj) : (w.putObj D' o').heap[D]? = some o := (World.putObj_heap_other hne).trans h
theorem cell_putDeferred {w : World} {D : Nat} {p : Addr} {v : Value} {l : List Deferred} (hc : w.cell? p = some v) (h : w.heap[D]? = some (.deferred (some l))) (o : Obj) : (w.putObj D o).cell? p = some v :=
  cell_kept hc (grownBy_putObj' w D o) (fun r e => by cases e; exact ⟨_, h, rfl⟩)
theorem heap_setCell_deferred {w : World} {D : Nat} {l : Option (List Deferred)} (p : Addr) (v : Value) (h : w.heap[D]? = some (.deferred l)) : (w.setCell p v).heap[D]? = some (.deferred l) :=
  (KeepsOthers.setCell w p v).same D _ h rfl
theorem Bel.deferred {w w' : World} {D : Nat} {o : Obj} (h : Bel w w') (hd : w.heap[D]? = some o) : w'.heap[D]? = some o := (h.block D (Array.getElem?_eq_some_iff.1 hd).1).trans hd
end Go.Proofs.YtkklmflclmgjeaaGreatDoor

/-
  Words for memory: a slice that reads as a list; a block known whole; append onto a row of the call's own.
-/
set_option linter.unusedVariables false
set_option linter.unusedSimpArgs false
set_option linter.unusedVariables false
set_option linter.unusedSimpArgs false
namespace Go.Proofs.YtkklmflclmgjeaaGreatDoor
open Go.RowKit Go.Shelf
theorem block_of_add (a : Addr) (n : Nat) : (a.add n).block = a.block := by unfold Addr.add; split <;> rfl
theorem add_of_add (a : Addr) (i j : Nat) : (a.add i).add j = a.add (i + j) := by
  unfold Addr.add
  by_cases hi : i = 0 <;> by_cases hj : j = 0 <;> simp [hi, hj, Nat.add_assoc]

def Reads (w : World) (B size : Nat) (A : Option Addr) (n : Nat) (xs : List Value) : Prop :=
  xs.length = n * size ∧ (0 < n → ∃ ad, A = some ad ∧ ad.block < B ∧ ∀ j u, xs[j]? = some u → w.cell? (ad.add j) = some u)

section
variable {w w' : World} {B B' size n : Nat} {A : Option Addr} {xs : List Value}
theorem Reads.none_ : Reads w B size A 0 [] := ⟨by simp, fun h => absurd h (by omega)⟩
theorem Reads.at_ {k : Nat} (h : Reads w B 1 A n xs) (hk : k < n) : ∃ ad u, A = some ad ∧ ad.block < B ∧ xs[k]? = some u ∧ w.cell? (ad.add k) = some u := by
  obtain ⟨ad, e, hb, hc⟩ := h.2 (by omega)
  have hl : k < xs.length := by have := h.1; omega
  exact ⟨ad, xs[k], e, hb, List.getElem?_eq_getElem hl, hc k _ (List.getElem?_eq_getElem hl)⟩
theorem Reads.keep (h : Reads w B size A n xs) (hk : ∀ p : Addr, p.block < B → w'.cell? p = w.cell? p) : Reads w' B size A n xs :=
  ⟨h.1, fun hn => by
    obtain ⟨ad, e, hb, hc⟩ := h.2 hn
    exact ⟨ad, e, hb, fun j u hu => (hk _ (by rw [block_of_add]; exact hb)).trans (hc j u hu)⟩⟩
theorem Reads.more (h : Reads w B size A n xs) (hB : B ≤ B') : Reads w B' size A n xs :=
  ⟨h.1, fun hn => by
    obtain ⟨ad, e, hb, hc⟩ := h.2 hn
    exact ⟨ad, e, by omega, hc⟩⟩
theorem Reads.below (h : Reads w B size A n xs) (hb : Below B w w') : Reads w' B size A n xs := h.keep fun _ hp => hb.cell hp
theorem Reads.drew (h : Reads w B size A n xs) : Reads w.drew B size A n xs := h
theorem Reads.drewN (h : Reads w B size A n xs) (k : Nat) : Reads (w.drewN k) B size A n xs := h
theorem Reads.alloc (h : Reads w B size A n xs) (hB : B ≤ w.heap.size) (o : Obj) : Reads (w.alloc o) B size A n xs := h.keep fun p hp => World.cell?_alloc_lt w o p (by omega)
theorem Reads.setCell (h : Reads w B size A n xs) {p : Addr} (hB : B ≤ p.block) (u : Value) : Reads (w.setCell p u) B size A n xs :=
  h.keep fun q hq => World.cell?_setCell_other w p q u (fun e => by subst e; omega)
theorem Reads.grown (h : Reads w B size A n xs) {row : Option Nat} (hg : w.grownBy w' row) (hB : B ≤ w.heap.size) (hr : ∀ g, row = some g → B ≤ g) : Reads w' B size A n xs :=
  h.keep fun p hp => World.cell?_of_block (hg.block p.block (by omega) (fun e => by have := hr _ e.symm; omega))
theorem Reads.cut (h : Reads w B size A n xs) {k cap : Nat} (hk : k ≤ n) (hc : n ≤ cap) :
    Reads w B size (if cap = k then A else A.map (·.add (k * size))) (n - k) (xs.drop (k * size)) := by
  refine ⟨by rw [List.length_drop, h.1, Nat.sub_mul], fun hn => ?_⟩
  obtain ⟨ad, rfl, hb, hcell⟩ := h.2 (by omega)
  rw [if_neg (by omega)]
  refine ⟨ad.add (k * size), rfl, by rw [block_of_add]; exact hb, fun j u hu => ?_⟩
  rw [add_of_add]
  exact hcell _ u (by rw [← hu, List.getElem?_drop])
theorem Reads.of_own {base : Nat} {e : TypeId} {c : Nat} (h : w.ownsRow base e size (.slice A n c) n xs) : Reads w w.heap.size size A n xs := by
  refine ⟨h.1, fun hn => ?_⟩
  obtain ⟨g, cap, hv, _, hlt⟩ := h.form hn
  have hA : A = some ⟨g, 0, none⟩ := by injection hv
  subst hA
  exact ⟨_, rfl, hlt, h.cells (g := g) rfl⟩
end

def Blk (w : World) (g : Nat) (t : TypeId) (cs : Array Value) : Prop := w.heap[g]? = some (.cells cs t (0, 0))

section
variable {w w' : World} {g : Nat} {t : TypeId} {cs : Array Value}
theorem Blk.lt (h : Blk w g t cs) : g < w.heap.size := by
  rcases Nat.lt_or_ge g w.heap.size with hlt | hge
  · exact hlt
  · unfold Blk at h; rw [Array.getElem?_eq_none hge] at h; cases h
theorem Blk.cell (h : Blk w g t cs) (i : Nat) : w.cell? ⟨g, i, none⟩ = cs[i]? := cell_of_row w g i cs t (0, 0) h
theorem Blk.frozen (h : Blk w g t cs) (i : Nat) : w.frozen? ⟨g, i, none⟩ = false := by
  unfold Blk at h
  simp [World.frozen?, h]
theorem Blk.new (w : World) (t : TypeId) (cs : Array Value) : Blk (w.alloc (.cells cs t)) w.heap.size t cs := heap_alloc_new w _
theorem Blk.drew (h : Blk w g t cs) : Blk w.drew g t cs := h
theorem Blk.drewN (h : Blk w g t cs) (n : Nat) : Blk (w.drewN n) g t cs := h
theorem Blk.alloc (h : Blk w g t cs) (o : Obj) : Blk (w.alloc o) g t cs := (Below.heap_alloc w o g h.lt).trans h
theorem Blk.set_ (h : Blk w g t cs) (i : Nat) (u : Value) : Blk (w.setCell ⟨g, i, none⟩ u) g t (cs.setIfInBounds i u) := by
  unfold Blk at h ⊢
  simp [World.setCell, Array.getElem?_modify, h]
theorem Blk.far (h : Blk w g t cs) {p : Addr} (hp : g ≠ p.block) (u : Value) : Blk (w.setCell p u) g t cs := (Below.heap_setCell w p u g hp).trans h
theorem Blk.below {B : Nat} (h : Blk w g t cs) (hb : Below B w w') (hg : g < B) : Blk w' g t cs := (hb.block g hg).trans h
theorem Blk.grown {row : Option Nat} (h : Blk w g t cs) (hb : w.grownBy w' row) (hg : some g ≠ row) : Blk w' g t cs := (hb.block g h.lt hg).trans h
theorem Blk.ne_ {g' : Nat} {t' : TypeId} {cs' : Array Value} (h : Blk w g t cs) (h' : Blk w g' t' cs') (hne : t ≠ t') : g ≠ g' := by
  rintro rfl
  unfold Blk at h h'
  rw [h] at h'
  injection h' with h'
  injection h' with _ ht
  exact hne ht
theorem own_blk_ne {base : Nat} {e : TypeId} {size n : Nat} {v : Value} {xs : List Value} (h : w.ownsRow base e size v n xs) (hg : Blk w g t cs) (hne : e ≠ t) : v.ownBlock ≠ some g := by
  rcases h.2 with ⟨rfl, _⟩ | ⟨g', cap, cur, rfl, _, hh, _⟩
  · simp [Value.ownBlock]
  · intro he
    have : g' = g := by simpa [Value.ownBlock] using he
    subst this
    exact Blk.ne_ (t := e) hh hg hne rfl
end

section
variable {P : Program} (w : World)

theorem run_append_of_nil (base : Nat) (t ty e : TypeId) (i : TypeInfo) (size : Nat) (ht : P.underlying t = some (.slice e)) (hi : P.info? e = some i)
    (v : Value) (n : Nat) (xs : List Value) (hown : w.ownsRow base e size v n xs) (c : Nat) : (Builtin.append_ #[t, t] ty #[v, .slice none 0 c]).run P w = .ok v w := by
  rcases hown.2 with ⟨rfl, rfl⟩ | ⟨g, cap, cur, rfl, _, _, hnc, _⟩
  · simp [Builtin.append_, run_underlying ht, sizeOf, typeInfo, hi, Builtin.lenOf, Builtin.firstCells]
  · simp [Builtin.append_, run_underlying ht, sizeOf, typeInfo, hi, Builtin.lenOf, Builtin.firstCells, hnc, storeCells]

theorem run_append_any (base : Nat) (t ty e : TypeId) (i : TypeInfo) (z : Value) (size bytes : Nat) (ht : P.underlying t = some (.slice e)) (hi : P.info? e = some i) (hz : i.zero = some z)
    (hsize : i.size = size) (hby : i.bytes = bytes) (hzs : z.cells.size = size) (hsz : 0 < size)
    (v : Value) (n : Nat) (xs : List Value) (hown : w.ownsRow base e size v n xs)
    (B : Nat) (A : Option Addr) (m c : Nat) (news : List Value) (hr : Reads w B size A m news) (h1 : ∀ u ∈ news, u.oneCell' = true)
    (h63 : n + m ≤ maxLen) (hbytes : (n + m) * bytes ≤ 140737488355328) (hbase : base ≤ w.heap.size) :
    ∃ v' w', (Builtin.append_ #[t, t] ty #[v, .slice A m c]).run P w = .ok v' w' ∧ w'.ownsRow base e size v' (n + m) (xs ++ news) ∧ w.grownBy w' v.ownBlock ∧
      (v'.ownBlock = v.ownBlock ∨ v'.ownBlock = some w.heap.size) := by
  rcases A with _ | ad
  · have hm : m = 0 := by
      rcases Nat.eq_zero_or_pos m with h0 | h0
      · exact h0
      · obtain ⟨ad, h, _⟩ := hr.2 h0
        cases h
    subst hm
    have hn : news = [] := List.eq_nil_of_length_eq_zero (by simpa using hr.1)
    subst hn
    exact ⟨v, w, run_append_of_nil w base t ty e i size ht hi v n xs hown c, by simpa using hown, World.grownBy.refl w _, .inl rfl⟩
  · have hcells : ∀ j u, news[j]? = some u → w.cell? (ad.add j) = some u := by
      intro j u hu
      rcases Nat.eq_zero_or_pos m with h0 | h0
      · subst h0
        have hn : news = [] := List.eq_nil_of_length_eq_zero (by simpa using hr.1)
        subst hn
        simp at hu
      · obtain ⟨ad', h, _, hc⟩ := hr.2 h0
        injection h with h
        subst h
        exact hc j u hu
    obtain ⟨v', w', hrun, h2, h3, _, h5⟩ := run_append_own_at (P := P) w base t ty e i z size bytes ht hi hz hsize hby hzs hsz v n xs hown ad m c news hr.1 hcells h1 h63 hbytes hbase
    exact ⟨v', w', hrun, h2, h3, h5⟩

theorem wp_append_any {o : Oper} {a : Act} {K : Act → World → Prop} {Q : Exit → Act → World → Prop} (s x : Operand) (t : TypeId)
    (ho : o.op = .call { callee := .builtin .append, args := #[s, x], argTypes := #[t, t] })
    (base : Nat) (e : TypeId) (i : TypeInfo) (z : Value) (size bytes : Nat) (ht : P.underlying t = some (.slice e)) (hi : P.info? e = some i) (hz : i.zero = some z)
    (hsize : i.size = size) (hby : i.bytes = bytes) (hzs : z.cells.size = size) (hsz : 0 < size)
    (v : Value) (n : Nat) (xs : List Value) (hs : a.eval s = v) (hown : w.ownsRow base e size v n xs)
    (B : Nat) (A : Option Addr) (m c : Nat) (news : List Value) (hx : a.eval x = .slice A m c) (hr : Reads w B size A m news) (h1 : ∀ u ∈ news, u.oneCell' = true)
    (h63 : n + m ≤ maxLen) (hbytes : (n + m) * bytes ≤ 140737488355328) (hbase : base ≤ w.heap.size)
    (h : ∀ v' w', w'.ownsRow base e size v' (n + m) (xs ++ news) → w.grownBy w' v.ownBlock → (v'.ownBlock = v.ownBlock ∨ v'.ownBlock = some w.heap.size) → K (a.put o.dst v') w') : o.wp P a w K Q := by
  obtain ⟨v', w', hrun, h2, h3, h4⟩ := run_append_any (P := P) w base t o.type e i z size bytes ht hi hz hsize hby hzs hsz v n xs hown B A m c news hr h1 h63 hbytes hbase
  unfold Oper.wp execOp
  simp only [ho, resolve, invoke, builtin, Sem.run_bind, Sem.run_pure, Result.andThen_ok, List.map_toArray, List.map_cons, List.map_nil, hs, hx, hrun]
  exact h v' w' h2 h3 h4

theorem wpList_append_any {ops : Array Oper} {rest : List Oper} {o : Oper} {a : Act} {Q : Exit → Act → World → Prop} (hgd : o.guard = none) (s x : Operand) (t : TypeId)
    (ho : o.op = .call { callee := .builtin .append, args := #[s, x], argTypes := #[t, t] })
    (base : Nat) (e : TypeId) (i : TypeInfo) (z : Value) (size bytes : Nat) (ht : P.underlying t = some (.slice e)) (hi : P.info? e = some i) (hz : i.zero = some z)
    (hsize : i.size = size) (hby : i.bytes = bytes) (hzs : z.cells.size = size) (hsz : 0 < size)
    (v : Value) (n : Nat) (xs : List Value) (hs : a.eval s = v) (hown : w.ownsRow base e size v n xs)
    (B : Nat) (A : Option Addr) (m c : Nat) (news : List Value) (hx : a.eval x = .slice A m c) (hr : Reads w B size A m news) (h1 : ∀ u ∈ news, u.oneCell' = true)
    (h63 : n + m ≤ maxLen) (hbytes : (n + m) * bytes ≤ 140737488355328) (hbase : base ≤ w.heap.size)
    (h : ∀ v' w', w'.ownsRow base e size v' (n + m) (xs ++ news) → w.grownBy w' v.ownBlock → (v'.ownBlock = v.ownBlock ∨ v'.ownBlock = some w.heap.size) → wpList P ops Q rest (a.put o.dst v') w') : wpList P ops Q (o :: rest) a w :=
  wpList_plain hgd fun _ hK => wp_append_any w s x t ho base e i z size bytes ht hi hz hsize hby hzs hsz v n xs hs hown B A m c news hx hr h1 h63 hbytes hbase fun v' w' h2 h3 h4 => hK _ _ (h v' w' h2 h3 h4)

theorem step_append_any {ops : Array Oper} {o : Oper} {a : Act} {K : Act → World → Prop} {Q : Exit → Act → World → Prop} {E : Prop} (hgd : o.guard = none) (s x : Operand) (t : TypeId)
    (ho : o.op = .call { callee := .builtin .append, args := #[s, x], argTypes := #[t, t] })
    (base : Nat) (e : TypeId) (i : TypeInfo) (z : Value) (size bytes : Nat) (ht : P.underlying t = some (.slice e)) (hi : P.info? e = some i) (hz : i.zero = some z)
    (hsize : i.size = size) (hby : i.bytes = bytes) (hzs : z.cells.size = size) (hsz : 0 < size)
    (v : Value) (n : Nat) (xs : List Value) (hs : a.eval s = v) (hown : w.ownsRow base e size v n xs)
    (B : Nat) (A : Option Addr) (m c : Nat) (news : List Value) (hx : a.eval x = .slice A m c) (hr : Reads w B size A m news) (h1 : ∀ u ∈ news, u.oneCell' = true)
    (h63 : n + m ≤ maxLen) (hbytes : (n + m) * bytes ≤ 140737488355328) (hbase : base ≤ w.heap.size)
    (h : ∀ v' w', w'.ownsRow base e size v' (n + m) (xs ++ news) → w.grownBy w' v.ownBlock → (v'.ownBlock = v.ownBlock ∨ v'.ownBlock = some w.heap.size) → K (a.put o.dst v') w') :
    if Region.wanted o (yielded ops a.tmps) = true then Oper.wp P o a w K Q else E := by
  have hw : Region.wanted o (yielded ops a.tmps) = true := by simp [Region.wanted, hgd]
  rw [if_pos hw]
  exact wp_append_any w s x t ho base e i z size bytes ht hi hz hsize hby hzs hsz v n xs hs hown B A m c news hx hr h1 h63 hbytes hbase h
end
section
variable {P : Program} (w : World)
/-- append of nothing. -/
theorem run_append_zero (t ty e : TypeId) (i : TypeInfo) (ht : P.underlying t = some (.slice e)) (hi : P.info? e = some i) (A A' : Option Addr) (n cap c : Nat) (hn : n ≤ cap) :
    (Builtin.append_ #[t, t] ty #[.slice A n cap, .slice A' 0 c]).run P w = .ok (.slice A n cap) w := by
  cases A <;> cases A' <;> simp [Builtin.append_, run_underlying ht, sizeOf, typeInfo, hi, Builtin.lenOf, Builtin.firstCells, hn, storeCells, loadCells, loadCellsFrom]
theorem wp_append_zero {o : Oper} {a : Act} {K : Act → World → Prop} {Q : Exit → Act → World → Prop} (s x : Operand) (t : TypeId)
    (ho : o.op = .call { callee := .builtin .append, args := #[s, x], argTypes := #[t, t] }) (e : TypeId) (i : TypeInfo) (ht : P.underlying t = some (.slice e)) (hi : P.info? e = some i)
    (A A' : Option Addr) (n cap c : Nat) (hs : a.eval s = .slice A n cap) (hx : a.eval x = .slice A' 0 c) (hn : n ≤ cap) (h : K (a.put o.dst (.slice A n cap)) w) : o.wp P a w K Q := by
  have hrun := run_append_zero (P := P) w t o.type e i ht hi A A' n cap c hn
  unfold Oper.wp execOp
  simp only [ho, resolve, invoke, builtin, Sem.run_bind, Sem.run_pure, Result.andThen_ok, List.map_toArray, List.map_cons, List.map_nil, hs, hx, hrun]
  exact h
theorem step_append_zero {ops : Array Oper} {o : Oper} {a : Act} {K : Act → World → Prop} {Q : Exit → Act → World → Prop} {E : Prop} (hgd : o.guard = none) (s x : Operand) (t : TypeId)
    (ho : o.op = .call { callee := .builtin .append, args := #[s, x], argTypes := #[t, t] }) (e : TypeId) (i : TypeInfo) (ht : P.underlying t = some (.slice e)) (hi : P.info? e = some i)
    (A A' : Option Addr) (n cap c : Nat) (hs : a.eval s = .slice A n cap) (hx : a.eval x = .slice A' 0 c) (hn : n ≤ cap) (h : K (a.put o.dst (.slice A n cap)) w) :
    if Region.wanted o (yielded ops a.tmps) = true then Oper.wp P o a w K Q else E := by
  have hw : Region.wanted o (yielded ops a.tmps) = true := by simp [Region.wanted, hgd]
  rw [if_pos hw]
  exact wp_append_zero w s x t ho e i ht hi A A' n cap c hs hx hn h
theorem wpList_append_zero {ops : Array Oper} {rest : List Oper} {o : Oper} {a : Act} {Q : Exit → Act → World → Prop} (hgd : o.guard = none) (s x : Operand) (t : TypeId)
    (ho : o.op = .call { callee := .builtin .append, args := #[s, x], argTypes := #[t, t] }) (e : TypeId) (i : TypeInfo) (ht : P.underlying t = some (.slice e)) (hi : P.info? e = some i)
    (A A' : Option Addr) (n cap c : Nat) (hs : a.eval s = .slice A n cap) (hx : a.eval x = .slice A' 0 c) (hn : n ≤ cap) (h : wpList P ops Q rest (a.put o.dst (.slice A n cap)) w) : wpList P ops Q (o :: rest) a w :=
  wpList_plain hgd fun _ hK => wp_append_zero w s x t ho e i ht hi A A' n cap c hs hx hn (hK _ _ h)
end
end Go.Proofs.YtkklmflclmgjeaaGreatDoor

/-
  Maps keyed by integers whose entries are known: an update that adds an entry to a map that has just been made, and look-ups.
-/
set_option linter.unusedVariables false
set_option linter.unusedSimpArgs false
set_option linter.unusedVariables false
set_option linter.unusedSimpArgs false
namespace Go.Proofs.YtkklmflclmgjeaaGreatDoor
open Go.RowKit
section
variable {P : Program} {T K E : TypeId} {k : IntKind}
theorem run_checkKey_int (hK : P.underlying K = some (.int k)) (e : Bool) (a : Int) (w : World) : (Instr.checkKey e 10000 K (.int k a)).run P w = .ok () w := by
  unfold Instr.checkKey
  simp [run_underlying hK]
theorem run_findKey_int (hK : P.underlying K = some (.int k)) {a : Int} {es : List MapEntry} {r : Option (Nat × Value)} (hf : Instr.findNow (.int k) (.int k a) es 0 = some r) (w : World) : (Instr.findKey K (.int k a) es).run P w = .ok r w := by
  unfold Instr.findKey
  simp [run_underlying hK, hf]
theorem run_getObj_map {b c : Nat} {es : Array MapEntry} {w : World} (hb : w.heap[b]? = some (.map es c)) : (getObj b).run P w = .ok (.map es c) w := by
  unfold getObj
  simp only [Sem.run]
  rw [hb]
theorem run_setObj_fresh {es : Array MapEntry} {c : Nat} {w : World} (o : Obj) : (setObj w.heap.size o).run P (w.alloc (.map es c)) = .ok () (w.alloc o) := by
  have h1 : (w.alloc (.map es c)).heap[w.heap.size]? = some (.map es c) := by
    show (w.heap.push _)[w.heap.size]? = _
    simp
  unfold setObj
  simp only [Sem.run]
  rw [h1]
  have h2 : (w.alloc (.map es c)).heap.setIfInBounds w.heap.size o = (w.alloc o).heap := by
    show (w.heap.push _).setIfInBounds w.heap.size o = w.heap.push o
    apply Array.ext
    · simp
    · intro i h1 h2
      simp only [Array.size_setIfInBounds, Array.size_push] at h1
      by_cases hi : i = w.heap.size
      · subst hi; simp
      · rw [Array.getElem_setIfInBounds_ne (by simpa using h1) (fun e => hi e.symm), Array.getElem_push_lt (by omega), Array.getElem_push_lt (by omega)]
  show Result.ok () { (w.alloc (.map es c)) with heap := (w.alloc (.map es c)).heap.setIfInBounds w.heap.size o } = _
  rw [h2]
  rfl
theorem run_mapUpdate_fresh (hT : P.underlying T = some (.map K E)) (hK : P.underlying K = some (.int k)) {es : Array MapEntry} {a : Int} (hf : Instr.findNow (.int k) (.int k a) es.toList 0 = some none) (c : Nat) (v : Value) (w : World) :
    (Instr.mapUpdate T (.map (some w.heap.size)) (.int k a) v).run P (w.alloc (.map es c)) = .ok () (w.alloc (.map (es.push { key := .int k a, val := v, born := c }) (c + 1))) := by
  have h1 : (w.alloc (.map es c)).heap[w.heap.size]? = some (.map es c) := by
    show (w.heap.push _)[w.heap.size]? = _
    simp
  unfold Instr.mapUpdate
  simp only [Sem.run_bind, run_underlying hT, Result.andThen_ok, run_getObj_map h1, run_checkKey_int hK, run_findKey_int hK hf, run_setObj_fresh]
theorem run_lookup_int_ok (hT : P.underlying T = some (.map K E)) (hK : P.underlying K = some (.int k)) {b c : Nat} {es : Array MapEntry} {a : Int} {i : Nat} {v : Value} (hf : Instr.findNow (.int k) (.int k a) es.toList 0 = some (some (i, v))) {w : World} (hb : w.heap[b]? = some (.map es c)) :
    (Instr.lookup T (.map (some b)) (.int k a) true).run P w = .ok (.tuple #[v, .bool true]) w := by
  have hg : (getObj b).run P w = .ok (.map es c) w := run_getObj_map hb
  have hck : ∀ e, (Instr.checkKey e 10000 K (.int k a)).run P w = .ok () w := fun e => run_checkKey_int hK e a w
  unfold Instr.lookup
  simp only [Sem.run_bind, run_underlying hT, Result.andThen_ok, hg, Sem.run_pure, hck, run_findKey_int hK hf]
  simp
theorem run_lookup_int (hT : P.underlying T = some (.map K E)) (hK : P.underlying K = some (.int k)) {b c : Nat} {es : Array MapEntry} {a : Int} {i : Nat} {v : Value} (hf : Instr.findNow (.int k) (.int k a) es.toList 0 = some (some (i, v))) {w : World} (hb : w.heap[b]? = some (.map es c)) :
    (Instr.lookup T (.map (some b)) (.int k a) false).run P w = .ok v w := by
  have hg : (getObj b).run P w = .ok (.map es c) w := run_getObj_map hb
  have hck : ∀ e, (Instr.checkKey e 10000 K (.int k a)).run P w = .ok () w := fun e => run_checkKey_int hK e a w
  unfold Instr.lookup
  simp only [Sem.run_bind, run_underlying hT, Result.andThen_ok, hg, Sem.run_pure, hck, run_findKey_int hK hf]
  simp
theorem run_lookup_int_none (hT : P.underlying T = some (.map K E)) (hK : P.underlying K = some (.int k)) {b c : Nat} {es : Array MapEntry} {a : Int} {z : Value} (hf : Instr.findNow (.int k) (.int k a) es.toList 0 = some none) {w : World} (hz : (zeroValue E).run P w = .ok z w) (hb : w.heap[b]? = some (.map es c)) :
    (Instr.lookup T (.map (some b)) (.int k a) true).run P w = .ok (.tuple #[z, .bool false]) w := by
  have hg : (getObj b).run P w = .ok (.map es c) w := run_getObj_map hb
  have hck : ∀ e, (Instr.checkKey e 10000 K (.int k a)).run P w = .ok () w := fun e => run_checkKey_int hK e a w
  unfold Instr.lookup
  simp only [Sem.run_bind, run_underlying hT, Result.andThen_ok, hg, Sem.run_pure, hck, run_findKey_int hK hf, hz]
  simp
end
end Go.Proofs.YtkklmflclmgjeaaGreatDoor

/-
  Maps keyed by ints: what a map's block holds, as a function; look-up, store, clone.
-/
set_option linter.unusedVariables false
set_option linter.unusedSimpArgs false
set_option linter.unusedVariables false
set_option linter.unusedSimpArgs false
namespace Go.Proofs.YtkklmflclmgjeaaGreatDoor
open Go.RowKit

def keyIs (a : Int) (e : MapEntry) : Bool := match e.key with
  | .int .i64 x => x == a
  | _ => false
structure IntMap (es : Array MapEntry) (clk : Nat) (g : Int → Option Value) : Prop where
  keys : ∀ e ∈ es.toList, ∃ a, e.key = .int .i64 a
  find : ∀ a, (es.toList.find? (keyIs a)).map (·.val) = g a
  nodup : es.toList.Pairwise fun x y => x.key ≠ y.key
  born : (es.toList.map (·.born)).Nodup
  young : ∀ e ∈ es.toList, e.born < clk
def MapAt (w : World) (b : Nat) (g : Int → Option Value) : Prop := ∃ es clk, w.heap[b]? = some (.map es clk) ∧ IntMap es clk g

theorem IntMap.empty : IntMap #[] 0 (fun _ => none) := ⟨by simp, by simp, by simp, by simp, by simp⟩
theorem MapAt.lt {w : World} {b : Nat} {g : Int → Option Value} (h : MapAt w b g) : b < w.heap.size := by
  obtain ⟨es, clk, hb, _⟩ := h
  exact (Array.getElem?_eq_some_iff.1 hb).1
theorem MapAt.of_block {w w' : World} {b : Nat} {g : Int → Option Value} (h : MapAt w b g) (he : w'.heap[b]? = w.heap[b]?) : MapAt w' b g := by
  obtain ⟨es, clk, hb, hm⟩ := h
  exact ⟨es, clk, he.trans hb, hm⟩
theorem MapAt.grown {w w' : World} {b : Nat} {g : Int → Option Value} {row : Option Nat} (h : MapAt w b g) (hg : w.grownBy w' row) (hne : some b ≠ row) : MapAt w' b g := h.of_block (hg.block b h.lt hne)
theorem MapAt.bel {w w' : World} {b : Nat} {g : Int → Option Value} (h : MapAt w b g) (hg : Bel w w') : MapAt w' b g := h.of_block (hg.block b h.lt)
theorem MapAt.made (w : World) : MapAt (w.alloc (.map #[] 0)) w.heap.size (fun _ => none) := ⟨#[], 0, World.alloc_heap_new w _, .empty⟩

theorem findNow_int (a : Int) : ∀ (l : List MapEntry) (i : Nat), (∀ e ∈ l, ∃ x, e.key = .int .i64 x) →
    (∃ j e, l[j]? = some e ∧ l.find? (keyIs a) = some e ∧ e.key = .int .i64 a ∧ Instr.findNow (.int .i64) (.int .i64 a) l i = some (some (i + j, e.val))) ∨
    (l.find? (keyIs a) = none ∧ Instr.findNow (.int .i64) (.int .i64 a) l i = some none)
  | [], i, _ => .inr ⟨rfl, rfl⟩
  | e :: l, i, h => by
    obtain ⟨x, hx⟩ := h e (List.mem_cons_self ..)
    have ih := findNow_int a l (i + 1) (fun e' h' => h e' (List.mem_cons_of_mem _ h'))
    have hs : Instr.sameNow (.int .i64) (.int .i64 a) e.key = some (a == x) := by rw [hx]; simp [Instr.sameNow]
    have hk : keyIs a e = (x == a) := by unfold keyIs; rw [hx]
    by_cases hax : x = a
    · subst hax
      refine .inl ⟨0, e, rfl, ?_, hx, ?_⟩
      · simp [List.find?, hk]
      · simp [Instr.findNow, hs]
    · have h1 : (a == x) = false := by simp; exact fun e => hax e.symm
      have h2 : (x == a) = false := by simp [hax]
      rcases ih with ⟨j, e', hj, hf, hke, hn⟩ | ⟨hf, hn⟩
      · refine .inl ⟨j + 1, e', by simpa using hj, ?_, hke, ?_⟩
        · simp [List.find?, hk, h2, hf]
        · simp [Instr.findNow, hs, h1, hn]; omega
      · refine .inr ⟨?_, ?_⟩
        · simp only [List.find?, hk, h2, hf]
        · simp [Instr.findNow, hs, h1, hn]

section
variable {P : Program} {T K E : TypeId}
theorem run_lookup_map (hT : P.underlying T = some (.map K E)) (hK : P.underlying K = some (.int .i64)) {z : Value} {w : World} (hz : (zeroValue E).run P w = .ok z w) {b : Nat} {g : Int → Option Value} (hm : MapAt w b g) (a : Int) :
    (Instr.lookup T (.map (some b)) (.int .i64 a) false).run P w = .ok ((g a).getD z) w := by
  obtain ⟨es, clk, hb, him⟩ := hm
  have hgo : (getObj b).run P w = .ok (.map es clk) w := run_getObj_map hb
  have hck : ∀ e, (Instr.checkKey e 10000 K (.int .i64 a)).run P w = .ok () w := fun e => run_checkKey_int hK e a w
  have hfa := him.find a
  rcases findNow_int a es.toList 0 him.keys with ⟨j, e, hj, hf, hke, hn⟩ | ⟨hf, hn⟩
  · rw [hf] at hfa
    rw [← hfa]
    unfold Instr.lookup
    simp only [Sem.run_bind, run_underlying hT, Result.andThen_ok, hgo, Sem.run_pure, hck, run_findKey_int hK hn]
    simp
  · rw [hf] at hfa
    rw [← hfa]
    unfold Instr.lookup
    simp only [Sem.run_bind, run_underlying hT, Result.andThen_ok, hgo, Sem.run_pure, hck, run_findKey_int hK hn, hz]
    simp
theorem run_lookup_map_ok (hT : P.underlying T = some (.map K E)) (hK : P.underlying K = some (.int .i64)) {z : Value} {w : World} (hz : (zeroValue E).run P w = .ok z w) {b : Nat} {g : Int → Option Value} (hm : MapAt w b g) (a : Int) :
    (Instr.lookup T (.map (some b)) (.int .i64 a) true).run P w = .ok (.tuple #[(g a).getD z, .bool (g a).isSome]) w := by
  obtain ⟨es, clk, hb, him⟩ := hm
  have hgo : (getObj b).run P w = .ok (.map es clk) w := run_getObj_map hb
  have hck : ∀ e, (Instr.checkKey e 10000 K (.int .i64 a)).run P w = .ok () w := fun e => run_checkKey_int hK e a w
  have hfa := him.find a
  rcases findNow_int a es.toList 0 him.keys with ⟨j, e, hj, hf, hke, hn⟩ | ⟨hf, hn⟩
  · rw [hf] at hfa
    rw [← hfa]
    unfold Instr.lookup
    simp only [Sem.run_bind, run_underlying hT, Result.andThen_ok, hgo, Sem.run_pure, hck, run_findKey_int hK hn]
    simp
  · rw [hf] at hfa
    rw [← hfa]
    unfold Instr.lookup
    simp only [Sem.run_bind, run_underlying hT, Result.andThen_ok, hgo, Sem.run_pure, hck, run_findKey_int hK hn, hz]
    simp

theorem run_setObj_map {b : Nat} {es : Array MapEntry} {c : Nat} {w : World} (hb : w.heap[b]? = some (.map es c)) (o : Obj) : (setObj b o).run P w = .ok () (w.putObj b o) := by
  simp [setObj, Sem.run, hb, World.putObj]

def upd (g : Int → Option Value) (a : Int) (v : Value) : Int → Option Value := fun x => if x = a then some v else g x

theorem IntMap.push {es : Array MapEntry} {clk : Nat} {g : Int → Option Value} (h : IntMap es clk g) (a : Int) (v : Value) (hf : es.toList.find? (keyIs a) = none) :
    IntMap (es.push { key := .int .i64 a, val := v, born := clk }) (clk + 1) (upd g a v) := by
  have hno : ∀ e ∈ es.toList, e.key ≠ .int .i64 a := by
    intro e he hk
    have := List.find?_eq_none.1 hf e he
    simp [keyIs, hk] at this
  refine ⟨?_, ?_, ?_, ?_, ?_⟩
  · intro e he
    simp at he
    rcases he with he | rfl
    · exact h.keys e (by simpa using he)
    · exact ⟨a, rfl⟩
  · intro x
    rw [Array.toList_push, List.find?_append]
    by_cases hx : x = a
    · subst hx
      rw [hf]
      simp [keyIs, upd]
    · have h1 : [({ key := .int .i64 a, val := v, born := clk } : MapEntry)].find? (keyIs x) = none := by
        simp [keyIs]; exact fun e => hx e.symm
      rw [h1]
      simp only [Option.or_none, upd, if_neg hx]
      exact h.find x
  · rw [Array.toList_push, List.pairwise_append]
    refine ⟨h.nodup, by simp, fun x hx y hy => ?_⟩
    simp at hy
    subst hy
    exact hno x hx
  · rw [Array.toList_push, List.map_append, List.nodup_append]
    refine ⟨h.born, by simp, fun x hx y hy => ?_⟩
    obtain ⟨e, he, rfl⟩ := List.mem_map.1 hx
    simp at hy
    subst hy
    have := h.young e he
    omega
  · intro e he
    simp at he
    rcases he with he | rfl
    · have := h.young e (by simpa using he)
      omega
    · show clk < clk + 1
      omega

theorem find_modify (a : Int) (v : Value) (x : Int) : ∀ (l : List MapEntry) (j : Nat) (e : MapEntry), l[j]? = some e → e.key = .int .i64 a → l.Pairwise (fun x y => x.key ≠ y.key) →
    ((l.modify j fun e => { e with val := v }).find? (keyIs x)).map (·.val) = if x = a then some v else (l.find? (keyIs x)).map (·.val)
  | [], j, e, h, _, _ => by simp at h
  | d :: l, 0, e, h, hk, hp => by
    simp at h
    subst h
    simp only [List.modify_zero_cons, List.find?]
    have h1 : keyIs x { d with val := v } = (a == x) := by simp [keyIs, hk]
    have h2 : keyIs x d = (a == x) := by simp [keyIs, hk]
    rw [h1, h2]
    by_cases hx : x = a
    · subst hx; simp
    · have : (a == x) = false := by simp; exact fun e => hx e.symm
      rw [this]
      simp [hx]
  | d :: l, j + 1, e, h, hk, hp => by
    simp at h
    have hp' := List.pairwise_cons.1 hp
    have ih := find_modify a v x l j e h hk hp'.2
    simp only [List.modify_succ_cons, List.find?]
    have hd : d.key ≠ .int .i64 a := by
      have := hp'.1 e (List.mem_of_getElem? h)
      rw [hk] at this
      exact this
    by_cases hkx : keyIs x d = true
    · rw [hkx]
      have hxa : x ≠ a := by
        rintro rfl
        unfold keyIs at hkx
        split at hkx
        · rename_i y hy
          simp at hkx
          subst hkx
          exact hd hy
        · simp at hkx
      simp [hxa]
    · rw [Bool.not_eq_true] at hkx
      rw [hkx]
      exact ih

theorem IntMap.modify {es : Array MapEntry} {clk : Nat} {g : Int → Option Value} (h : IntMap es clk g) (a : Int) (v : Value) (j : Nat) (e : MapEntry) (hj : es.toList[j]? = some e) (hk : e.key = .int .i64 a) :
    IntMap (es.modify j fun e => { e with key := .int .i64 a, val := v }) clk (upd g a v) := by
  have hl : (es.modify j fun e => { e with key := .int .i64 a, val := v }).toList = es.toList.modify j fun e => { e with val := v } := by
    rw [Array.toList_modify]
    apply List.ext_getElem?
    intro i
    rw [List.getElem?_modify, List.getElem?_modify]
    by_cases hij : j = i
    · subst hij
      rw [hj]
      simp [hk]
    · simp [hij]
  have hkeys : ∀ (f : MapEntry → MapEntry), (∀ e, (f e).key = e.key) → (es.toList.modify j f).map (·.key) = es.toList.map (·.key) := by
    intro f hf
    apply List.ext_getElem?
    intro i
    rw [List.getElem?_map, List.getElem?_modify, List.getElem?_map]
    by_cases hij : j = i <;> cases es.toList[i]? <;> simp [hij, hf]
  have hborn : (es.toList.modify j fun e => { e with val := v }).map (·.born) = es.toList.map (·.born) := by
    apply List.ext_getElem?
    intro i
    rw [List.getElem?_map, List.getElem?_modify, List.getElem?_map]
    by_cases hij : j = i <;> cases es.toList[i]? <;> simp [hij]
  have hmem : ∀ e' ∈ es.toList.modify j (fun e => { e with val := v }), ∃ d ∈ es.toList, e'.key = d.key ∧ e'.born = d.born := by
    intro e' he'
    obtain ⟨i, hi⟩ := List.mem_iff_getElem?.1 he'
    rw [List.getElem?_modify] at hi
    cases hd : es.toList[i]? with
    | none => rw [hd] at hi; simp at hi
    | some d =>
      rw [hd] at hi
      simp at hi
      refine ⟨d, List.mem_of_getElem? hd, ?_⟩
      subst hi
      split <;> exact ⟨rfl, rfl⟩
  refine ⟨?_, ?_, ?_, ?_, ?_⟩
  · intro e' he'
    rw [hl] at he'
    obtain ⟨d, hd, h1, h2⟩ := hmem e' he'
    rw [h1]
    exact h.keys d hd
  · intro x
    rw [hl, find_modify a v x es.toList j e hj hk h.nodup]
    unfold upd
    split
    · rfl
    · exact h.find x
  · rw [hl]
    have := (List.pairwise_map (f := MapEntry.key) (R := fun x y => x ≠ y)).2 h.nodup
    rw [← hkeys (fun e => { e with val := v }) (fun _ => rfl)] at this
    exact List.pairwise_map.1 this
  · rw [hl, hborn]; exact h.born
  · intro e' he'
    rw [hl] at he'
    obtain ⟨d, hd, h1, h2⟩ := hmem e' he'
    rw [h2]
    exact h.young d hd

theorem run_mapUpdate_map (hT : P.underlying T = some (.map K E)) (hK : P.underlying K = some (.int .i64)) {w : World} {b : Nat} {g : Int → Option Value} (hm : MapAt w b g) (a : Int) (v : Value) :
    ∃ w', (Instr.mapUpdate T (.map (some b)) (.int .i64 a) v).run P w = .ok () w' ∧ MapAt w' b (upd g a v) ∧ w.grownBy w' (some b) := by
  obtain ⟨es, clk, hb, him⟩ := hm
  have hgo : (getObj b).run P w = .ok (.map es clk) w := run_getObj_map hb
  have hck : ∀ e, (Instr.checkKey e 10000 K (.int .i64 a)).run P w = .ok () w := fun e => run_checkKey_int hK e a w
  have hbl := (Array.getElem?_eq_some_iff.1 hb).1
  rcases findNow_int a es.toList 0 him.keys with ⟨j, e, hj, hf, hke, hn⟩ | ⟨hf, hn⟩
  · refine ⟨w.putObj b (.map (es.modify j fun e => { e with key := .int .i64 a, val := v }) clk), ?_, ⟨_, _, World.putObj_heap_same hbl, him.modify a v j e hj hke⟩, grownBy_putObj' w b _⟩
    have hk : (Instr.keyThatStays (((es[j]?).map (·.key)).getD (.int .i64 a)) (.int .i64 a)).run P w = .ok (.int .i64 a) w := by
      have : es[j]? = some e := by rw [← Array.getElem?_toList]; exact hj
      rw [this]
      simp [Instr.keyThatStays, hke, Instr.sameBits]
    unfold Instr.mapUpdate
    simp only [Sem.run_bind, run_underlying hT, Result.andThen_ok, hgo, hck, run_findKey_int hK hn, Nat.zero_add, hk, run_setObj_map hb]
  · refine ⟨w.putObj b (.map (es.push { key := .int .i64 a, val := v, born := clk }) (clk + 1)), ?_, ⟨_, _, World.putObj_heap_same hbl, him.push a v hf⟩, grownBy_putObj' w b _⟩
    unfold Instr.mapUpdate
    simp only [Sem.run_bind, run_underlying hT, Result.andThen_ok, hgo, hck, run_findKey_int hK hn, run_setObj_map hb]
end
end Go.Proofs.YtkklmflclmgjeaaGreatDoor

/-
  Slices of bytes in memory (for the codec).
-/
set_option linter.unusedVariables false
set_option linter.unusedSimpArgs false
set_option linter.unusedVariables false
set_option linter.unusedSimpArgs false
namespace Go.Proofs.YtkklmflclmgjeaaGreatDoor
open Go.RowKit

def bv (c : UInt8) : Value := .int .u8 c.toNat
/-- How many bytes may be in one list here. -/
def manyB : Nat := 1099511627776
def BytesAt (w : World) (v : Value) (s : List UInt8) (fp : Nat → Prop) : Prop :=
  ∃ A cap, v = .slice A s.length cap ∧ s.length ≤ cap ∧ cap ≤ maxLen ∧ (A = none → cap = 0) ∧
    (∀ a, A = some a → a.spot = none) ∧ (0 < s.length → ∃ b off cs fz, A = some ⟨b, off, none⟩ ∧ fp b ∧ w.heap[b]? = some (.cells cs 5 fz) ∧ ∀ j c, s[j]? = some c → cs[off + j]? = some (bv c))
theorem BytesAt.nil (w : World) (fp : Nat → Prop) : BytesAt w (.slice none 0 0) [] fp := ⟨none, 0, rfl, by simp, by simp, fun _ => rfl, by simp, fun h => by simp at h⟩
theorem BytesAt.kept {w w' : World} {v : Value} {s : List UInt8} {fp fp' : Nat → Prop} (h : BytesAt w v s fp) (hk : ∀ b, fp b → b < w.heap.size → w'.heap[b]? = w.heap[b]?) (hf : ∀ b, fp b → b < w.heap.size → fp' b) : BytesAt w' v s fp' := by
  obtain ⟨A, cap, h1, h2, h3, h4, h4', h5⟩ := h
  refine ⟨A, cap, h1, h2, h3, h4, h4', fun hn => ?_⟩
  obtain ⟨b, off, cs, fz, h6, h6', h7, h8⟩ := h5 hn
  have hl := (Array.getElem?_eq_some_iff.1 h7).1
  exact ⟨b, off, cs, fz, h6, hf b h6' hl, (hk _ h6' hl).trans h7, h8⟩
theorem BytesAt.bel {w w' : World} {v : Value} {s : List UInt8} {fp : Nat → Prop} (h : BytesAt w v s fp) (hb : Bel w w') : BytesAt w' v s fp := h.kept (fun b _ hl => hb.block b hl) (fun _ h _ => h)
theorem BytesAt.mono {w : World} {v : Value} {s : List UInt8} {fp fp' : Nat → Prop} (h : BytesAt w v s fp) (hf : ∀ b, fp b → b < w.heap.size → fp' b) : BytesAt w v s fp' := h.kept (fun _ _ _ => rfl) hf
theorem BytesAt.reads {w : World} {A : Option Addr} {n cap : Nat} {s : List UInt8} {fp : Nat → Prop} (h : BytesAt w (.slice A n cap) s fp) : n = s.length ∧ Reads w w.heap.size 1 A s.length (s.map bv) := by
  obtain ⟨A', cap', h1, h2, h3, h4, h4', h5⟩ := h
  simp only [Value.slice.injEq] at h1
  obtain ⟨rfl, rfl, rfl⟩ := h1
  refine ⟨rfl, by simp, fun hn => ?_⟩
  obtain ⟨b, off, cs, fz, rfl, _, h7, h8⟩ := h5 hn
  refine ⟨_, rfl, (Array.getElem?_eq_some_iff.1 h7).1, fun j u hu => ?_⟩
  rw [List.getElem?_map] at hu
  cases hs : s[j]? with
  | none => rw [hs] at hu; simp at hu
  | some c =>
    rw [hs] at hu
    simp at hu
    subst hu
    have := h8 j c hs
    have e : (Addr.add ⟨b, off, none⟩ j) = ⟨b, off + j, none⟩ := by unfold Addr.add; split <;> simp_all
    rw [e]
    simp [World.cell?, h7, this]
theorem BytesAt.of_own {w : World} {base n : Nat} {v : Value} {s : List UInt8} (h : w.ownsRow base 5 1 v n (s.map bv)) : BytesAt w v s (fun b => base ≤ b) := by
  obtain ⟨hl, h⟩ := h
  simp at hl
  rcases h with ⟨rfl, rfl⟩ | ⟨g, cap, cur, rfl, hbg, hg, h2, h3, h4, h5⟩
  · have : s = [] := List.eq_nil_of_length_eq_zero hl
    subst this
    exact BytesAt.nil w _
  · subst hl
    refine ⟨_, cap, rfl, h2, h3, (fun h => by cases h), (fun a e => by cases e; rfl), fun hn => ⟨g, 0, cur, _, rfl, hbg, hg, fun j c hj => ?_⟩⟩
    have : (s.map bv)[j]? = some (bv c) := by simp [hj]
    rw [← h5] at this
    rw [List.getElem?_take] at this
    split at this
    · simpa using this
    · simp at this
theorem BytesAt.take {w : World} {A : Option Addr} {n cap : Nat} {s : List UInt8} {fp : Nat → Prop} (h : BytesAt w (.slice A n cap) s fp) (k : Nat) (hk : k ≤ n) : BytesAt w (.slice A k k) (s.take k) fp := by
  obtain ⟨A', cap', h1, h2, h3, h4, h4', h5⟩ := h
  simp only [Value.slice.injEq] at h1
  obtain ⟨rfl, rfl, rfl⟩ := h1
  have hl : (s.take k).length = k := by simp; omega
  refine ⟨A, k, by rw [hl], by omega, by omega, fun ha => by have := h4 ha; omega, h4', fun hn => ?_⟩
  obtain ⟨b, off, cs, fz, h6, h6', h7, h8⟩ := h5 (by omega)
  exact ⟨b, off, cs, fz, h6, h6', h7, fun j c hj => h8 j c (by rw [List.getElem?_take] at hj; split at hj; exact hj; simp at hj)⟩
theorem BytesAt.len {w : World} {A : Option Addr} {n cap : Nat} {s : List UInt8} {fp : Nat → Prop} (h : BytesAt w (.slice A n cap) s fp) : n = s.length := h.reads.1

/-- A call hands back new bytes; nothing else has turned. -/
def GivesBytes (s : List UInt8) (w : World) (e : Ending) (w' : World) : Prop := ∃ v, e = .returned v ∧ BytesAt w' v s (fun b => w.heap.size ≤ b) ∧ Bel w w'
theorem infoU8 : (Tryz.prog.info? 5).map (fun i => (i.zero, i.size, i.bytes)) = some (some (.int .u8 0), 1, 1) := by kernel_rfl
theorem bv_one (s : List UInt8) : ∀ u ∈ s.map bv, u.oneCell' = true := by
  intro u hu
  obtain ⟨c, _, rfl⟩ := List.mem_map.1 hu
  rfl
theorem eqlNilB (a : Option Addr) (l c : Nat) (w : World) : (binOp .eql 63 (.slice a l c) (.slice none 0 0)).run Tryz.prog w = .ok (.bool a.isNone) w := Lib.run_eql_slice_nil w _ _ a l c 0 0 Tryz.underlying63
end Go.Proofs.YtkklmflclmgjeaaGreatDoor

/-
  errors.As at a target of type *Errno: nil; an Errno itself; a fault that wraps an Errno.
-/
set_option linter.unusedVariables false
set_option linter.unusedSimpArgs false
set_option linter.unusedVariables false
set_option linter.unusedSimpArgs false
namespace Go.Proofs.YtkklmflclmgjeaaGreatDoor
open Go.RowKit Go.Extern.Stop Go.Stop Go.Extern

/-- errors.As(nil, target). -/
theorem as_nil (t : Value) (w : World) :
    Calls Tryz.prog 92 #[.nilIface, t] w fun e w' => e = .returned (.bool false) ∧ w = w' := by
  go_enter Tryz.func92, Tryz.ntmps92
  go_wp2
  go_ret
  exact ⟨rfl, rfl⟩

theorem asValueOfP (t : Addr) (w : World) : (ReflectliteValue.unpack (.iface 126 (.pointer (some t)))).run Tryz.prog w
    = .ok (.agg #[.pointer (some ⟨4, 126, none⟩), .pointer (some ⟨w.heap.size, 0, none⟩), .int .u64 150]) (w.alloc (.cells #[.pointer (some t)] 126)) := by kernel_rfl
theorem asTypeP (a : Addr) (w : World) : (ReflectliteValue.methodAny (ReflectliteValue.valueError "reflectlite.Value.Type" 0) (fun t _ _ _ => ReflectliteType.toType t) #[.agg #[.pointer (some ⟨4, 126, none⟩), .pointer (some a), .int .u64 150]]).run Tryz.prog w
    = .ok (.iface 218 (.agg #[.pointer (some ⟨4, 126, none⟩)])) w := by kernel_rfl
theorem asMKind (h : Value) (w : World) : (Go.method 390 218 (.agg #[h]) "Kind").run Tryz.prog w = .ok (211, h) w := by kernel_rfl
theorem asKindP (w : World) : ((ReflectliteType.abiMethod fun t => (fun a : Nat => Value.int IntKind.u8 (a : Int)) <$> Rtype.kind t) #[.pointer (some ⟨4, 126, none⟩)]).run Tryz.prog w = .ok (.int .u8 22) w := by kernel_rfl
theorem asKindE (w : World) : ((ReflectliteType.abiMethod fun t => (fun a : Nat => Value.int IntKind.u8 (a : Int)) <$> Rtype.kind t) #[.pointer (some ⟨4, 32, none⟩)]).run Tryz.prog w = .ok (.int .u8 2) w := by kernel_rfl
theorem asRlm (z : Sem Value) (f : TypeId → Addr → Nat → Nat → Sem Value) (v : Value) :
    ReflectliteValue.method z f #[v] = (do match ← ReflectliteValue.parts v with | none => z | some (t, a, fl) => f t a fl (fl % 32)) := rfl
theorem asPartsP (a : Addr) (w : World) : (ReflectliteValue.parts (.agg #[.pointer (some ⟨4, 126, none⟩), .pointer (some a), .int .u64 150])).run Tryz.prog w = .ok (some (126, a, 150)) w := by kernel_rfl
theorem asIsNilP (a p : Addr) (W : World) (ha : W.cell? a = some (.pointer (some p))) :
    (ReflectliteValue.method (ReflectliteValue.valueError "reflectlite.Value.IsNil" 0) ReflectliteValue.isNil #[.agg #[.pointer (some ⟨4, 126, none⟩), .pointer (some a), .int .u64 150]]).run Tryz.prog W = .ok (.bool false) W := by
  rw [asRlm]
  simp only [Sem.run_bind, asPartsP, Result.andThen]
  simp [ReflectliteValue.isNil, loadVar, isAgg, underlying, Tryz.underlying126, ha, Result.andThen]
theorem asMElem (h : Value) (w : World) : (Go.method 390 218 (.agg #[h]) "Elem").run Tryz.prog w = .ok (223, .agg #[h]) w := by kernel_rfl
theorem asMImpl (h : Value) (w : World) : (Go.method 390 218 (.agg #[h]) "Implements").run Tryz.prog w = .ok (224, .agg #[h]) w := by kernel_rfl
theorem asMAssign (h : Value) (w : World) : (Go.method 390 218 (.agg #[h]) "AssignableTo").run Tryz.prog w = .ok (221, .agg #[h]) w := by kernel_rfl
theorem asElemP (w : World) : (ReflectliteType.method ReflectliteType.elem #[.agg #[.pointer (some ⟨4, 126, none⟩)]]).run Tryz.prog w = .ok (.iface 218 (.agg #[.pointer (some ⟨4, 32, none⟩)])) w := by kernel_rfl
theorem asImplE (w : World) : (ReflectliteType.relation "Implements" ReflectliteType.implements_ #[.agg #[.pointer (some ⟨4, 32, none⟩)], .iface 218 (.agg #[.pointer (some ⟨4, 91, none⟩)])]).run Tryz.prog w = .ok (.bool true) w := by kernel_rfl
theorem asTypeOf (v : Value) (w : World) : (ReflectliteType.typeOf #[.iface 32 v]).run Tryz.prog w = .ok (.iface 218 (.agg #[.pointer (some ⟨4, 32, none⟩)])) w := by kernel_rfl
theorem asAssign (w : World) : (ReflectliteType.relation "AssignableTo" ReflectliteType.assignableTo #[.agg #[.pointer (some ⟨4, 32, none⟩)], .iface 218 (.agg #[.pointer (some ⟨4, 32, none⟩)])]).run Tryz.prog w = .ok (.bool true) w := by kernel_rfl
theorem asValueOfE (k : Int) (w : World) : (ReflectliteValue.unpack (.iface 32 (.int .i64 k))).run Tryz.prog w
    = .ok (.agg #[.pointer (some ⟨4, 32, none⟩), .pointer (some ⟨w.heap.size, 0, none⟩), .int .u64 130]) (w.alloc (.cells #[.int .i64 k] 32)) := by kernel_rfl
theorem asElemOfP (w : World) : (Rtype.elem? 126).run Tryz.prog w = .ok (some 32) w := by kernel_rfl
theorem asMkE (p : Addr) (w : World) : (ReflectliteValue.mk 32 p ReflectliteValue.flagAddr).run Tryz.prog w = .ok (.agg #[.pointer (some ⟨4, 32, none⟩), .pointer (some p), .int .u64 386]) w := by kernel_rfl
theorem asElemV (a p : Addr) (W : World) (ha : W.cell? a = some (.pointer (some p))) :
    (ReflectliteValue.method (ReflectliteValue.valueError "reflectlite.Value.Elem" 0) ReflectliteValue.elem #[.agg #[.pointer (some ⟨4, 126, none⟩), .pointer (some a), .int .u64 150]]).run Tryz.prog W
      = .ok (.agg #[.pointer (some ⟨4, 32, none⟩), .pointer (some p), .int .u64 386]) W := by
  rw [asRlm]
  simp only [Sem.run_bind, asPartsP, Result.andThen]
  simp [ReflectliteValue.elem, loadVar, isAgg, underlying, Tryz.underlying126, ha, Result.andThen, asElemOfP, asMkE]
theorem asRls (v x : Value) : ReflectliteValue.set #[v, x] = (do
    let (some (dst, a, fl), some (src, b, _)) := (← ReflectliteValue.parts v, ← ReflectliteValue.parts x)
      | unsupported (.noEntry "extern/(internal/reflectlite.Value).Set.zeroValue")
    if fl / ReflectliteValue.flagAddr % 2 == 0 then unsupported (.noEntry "extern/(internal/reflectlite.Value).Set.unaddressable")
    let val ← loadVar src b
    if ← Rtype.directlyAssignable dst src then storeVar dst a val
    else if ← Rtype.implements dst src then
      if (← Rtype.kind src) == 20 then
        match val with
        | .nilIface => unsupported (.noEntry "extern/reflectlite: a nil value of one interface type handed on as a value of another")
        | _ => storeVar dst a val
      else storeVar dst a (.iface src val)
    else panicString ("reflectlite.Set: value of type " ++ (← Rtype.spelt src) ++ " is not assignable to type " ++ (← Rtype.spelt dst))
    pure (.tuple #[])) := rfl
theorem asPartsA (a : Addr) (w : World) : (ReflectliteValue.parts (.agg #[.pointer (some ⟨4, 32, none⟩), .pointer (some a), .int .u64 386])).run Tryz.prog w = .ok (some (32, a, 386)) w := by kernel_rfl
theorem asPartsE (a : Addr) (w : World) : (ReflectliteValue.parts (.agg #[.pointer (some ⟨4, 32, none⟩), .pointer (some a), .int .u64 130])).run Tryz.prog w = .ok (some (32, a, 130)) w := by kernel_rfl
theorem asDirect (w : World) : (Rtype.directlyAssignable 32 32).run Tryz.prog w = .ok true w := by kernel_rfl
theorem asSet (ta b : Addr) (k : Int) (old : Value) (W : World) (hb : W.cell? b = some (.int .i64 k)) (ht : W.cell? ta = some old) (hf : W.frozen? ta = false) :
    (ReflectliteValue.set #[.agg #[.pointer (some ⟨4, 32, none⟩), .pointer (some ta), .int .u64 386], .agg #[.pointer (some ⟨4, 32, none⟩), .pointer (some b), .int .u64 130]]).run Tryz.prog W
      = .ok (.tuple #[]) (W.setCell ta (.int .i64 k)) := by
  rw [asRls]
  simp only [Sem.run_bind, asPartsA, asPartsE, Result.andThen]
  simp [ReflectliteValue.flagAddr, loadVar, isAgg, underlying, Tryz.underlying32, hb, Result.andThen, asDirect, storeVar, Value.cells, storeCells, Addr.add]
  rw [run_store Tryz.prog W ta _ _ (by rfl)]
  simp [ht, hf]

/-- errors.errorType's cell, as the program's text lays it. -/
def ErrType (w : World) : Prop := w.cell? ⟨0, 0, none⟩ = some (.iface 218 (.agg #[.pointer (some ⟨4, 91, none⟩)]))
theorem ErrType.bel {w w' : World} (h : ErrType w) (hb : Bel w w') : ErrType w' := hb.c h
/-- What errors.As leaves: the target holds the number. -/
def AsPost (t : Addr) (k : Int) (w : World) (e : Ending) (w' : World) : Prop := e = .returned (.bool true) ∧ w.grownBy w' (some t.block) ∧ w'.cell? t = some (.int .i64 k) ∧ w'.frozen? t = false

set_option maxHeartbeats 1000000 in
theorem asIn_errno (k : Int) (t b : Addr) (x old : Value) (w : World) (hb : w.cell? b = some (.pointer (some t))) (ht : w.cell? t = some old) (hf : w.frozen? t = false) :
    Calls Tryz.prog 136 #[.iface 32 (.int .i64 k), x, .agg #[.pointer (some ⟨4, 126, none⟩), .pointer (some b), .int .u64 150], .iface 218 (.agg #[.pointer (some ⟨4, 32, none⟩)])] w (AsPost t k w) := by
  have hbl : b.block < w.heap.size := World.block_lt_of_cell? (w := w) (a := b) hb
  have htl : t.block < w.heap.size := World.block_lt_of_cell? (w := w) (a := t) ht
  have h1 := @run_callFunc_extern Tryz.prog 137 _ ReflectliteType.typeOf Tryz.func137 (by kernel_rfl) (by kernel_rfl) (by kernel_rfl) (by kernel_rfl)
  have h2 := @run_callFunc_extern Tryz.prog 221 _ (ReflectliteType.relation "AssignableTo" ReflectliteType.assignableTo) Tryz.func221 (by kernel_rfl) (by kernel_rfl) (by kernel_rfl) (by kernel_rfl)
  have h3 := @run_callFunc_extern Tryz.prog 158 _ (ReflectliteValue.method (ReflectliteValue.valueError "reflectlite.Value.Elem" 0) ReflectliteValue.elem) Tryz.func158 (by kernel_rfl) (by kernel_rfl) (by kernel_rfl) (by kernel_rfl)
  have h4 := @run_callFunc_extern Tryz.prog 133 _ (fun args => ReflectliteValue.unpack (args.getD 0 (.tuple #[]))) Tryz.func133 (by kernel_rfl) (by kernel_rfl) (by kernel_rfl) (by kernel_rfl)
  have h5 := @run_callFunc_extern Tryz.prog 159 _ ReflectliteValue.set Tryz.func159 (by kernel_rfl) (by kernel_rfl) (by kernel_rfl) (by kernel_rfl)
  have f1 := asTypeOf
  have f2 := asMAssign
  have f3 := asAssign
  have f4 := asValueOfE
  have el := asElemV b t (w.alloc (.cells #[.pointer (some ⟨4, 126, none⟩), .pointer (some b), .int .u64 150] 189)) (by rw [World.cell?_alloc_lt _ _ b hbl]; exact hb)
  have st := asSet t ⟨w.heap.size + 1, 0, none⟩ k old ((w.alloc (.cells #[.pointer (some ⟨4, 126, none⟩), .pointer (some b), .int .u64 150] 189)).alloc (.cells #[.int .i64 k] 32))
    (by rw [World.cell?_alloc_at _ _ _ _ (by simp)]; rfl)
    (by rw [World.cell?_alloc_lt _ _ t (by simp; omega), World.cell?_alloc_lt _ _ t htl]; exact ht)
    (by rw [World.frozen?_alloc_old _ _ t (by simp; omega), World.frozen?_alloc_old _ _ t (Nat.ne_of_lt htl)]; exact hf)
  have hfin : AsPost t k w (.returned (.bool true)) ((((w.alloc (.cells #[.pointer (some ⟨4, 126, none⟩), .pointer (some b), .int .u64 150] 189)).alloc (.cells #[.int .i64 k] 32))).setCell t (.int .i64 k)) := by
    refine ⟨rfl, grown_trans (grown_alloc (grown_alloc (grown_refl _ _) _) _) (grown_setCell _ _ _), ?_, ?_⟩
    · exact World.cell?_setCell_same _ _ _ (u := old) (by rw [World.cell?_alloc_lt _ _ t (by simp; omega), World.cell?_alloc_lt _ _ t htl]; exact ht)
    · rw [World.frozen?_setCell, World.frozen?_alloc_old _ _ t (by simp; omega), World.frozen?_alloc_old _ _ t (Nat.ne_of_lt htl)]; exact hf
  have HFIN := Lib.hid hfin
  clear hfin
  go_enter Tryz.func136, Tryz.ntmps136
  go_wp2
  refine wp_loop_rounds 1 ?_
  rw [rounds_succ]
  go_wp2
  go_ret
  exact HFIN.out

set_option maxHeartbeats 1000000 in
/-- errors.As, out of what errors.as does. -/
theorem as_of (T : TypeId) (v : Value) (k : Int) (t : Addr) (old : Value) (w : World) (hg : w.cell? ⟨0, 0, none⟩ = some (.iface 218 (.agg #[.pointer (some ⟨4, 91, none⟩)]))) (ht : w.cell? t = some old) (hf : w.frozen? t = false)
    (hin : ∀ W b, Bel w W → W.cell? b = some (.pointer (some t)) → W.cell? t = some old → W.frozen? t = false →
      Calls Tryz.prog 136 #[.iface T v, .iface 126 (.pointer (some t)), .agg #[.pointer (some ⟨4, 126, none⟩), .pointer (some b), .int .u64 150], .iface 218 (.agg #[.pointer (some ⟨4, 32, none⟩)])] W (AsPost t k W)) :
    Calls Tryz.prog 92 #[.iface T v, .iface 126 (.pointer (some t))] w (AsPost t k w) := by
  have htl : t.block < w.heap.size := World.block_lt_of_cell? (w := w) (a := t) ht
  have h4 := @run_callFunc_extern Tryz.prog 133 _ (fun args => ReflectliteValue.unpack (args.getD 0 (.tuple #[]))) Tryz.func133 (by kernel_rfl) (by kernel_rfl) (by kernel_rfl) (by kernel_rfl)
  have h7 := @run_callFunc_extern Tryz.prog 134 _ (ReflectliteValue.methodAny (ReflectliteValue.valueError "reflectlite.Value.Type" 0) (fun t _ _ _ => ReflectliteType.toType t)) Tryz.func134 (by kernel_rfl) (by kernel_rfl) (by kernel_rfl) (by kernel_rfl)
  have h8 := @run_callFunc_extern Tryz.prog 135 _ (ReflectliteValue.method (ReflectliteValue.valueError "reflectlite.Value.IsNil" 0) ReflectliteValue.isNil) Tryz.func135 (by kernel_rfl) (by kernel_rfl) (by kernel_rfl) (by kernel_rfl)
  have h27 := @run_callFunc_extern Tryz.prog 211 _ (ReflectliteType.abiMethod fun t => do pure (.int .u8 (← Rtype.kind t))) Tryz.func211 (by kernel_rfl) (by kernel_rfl) (by kernel_rfl) (by kernel_rfl)
  have h37 := @run_callFunc_extern Tryz.prog 223 _ (ReflectliteType.method ReflectliteType.elem) Tryz.func223 (by kernel_rfl) (by kernel_rfl) (by kernel_rfl) (by kernel_rfl)
  have h38 := @run_callFunc_extern Tryz.prog 224 _ (ReflectliteType.relation "Implements" ReflectliteType.implements_) Tryz.func224 (by kernel_rfl) (by kernel_rfl) (by kernel_rfl) (by kernel_rfl)
  have f6 := asValueOfP
  have f7 := asTypeP
  have mK := asMKind
  have mE := asMElem
  have mI := asMImpl
  have k27 := asKindP
  have k25 := asKindE
  have e27 := asElemP
  have i25 := asImplE
  have hba : Bel w ((w.alloc (.cells #[.pointer (some t)] 126)).alloc (.cells #[.pointer (some ⟨4, 126, none⟩), .pointer (some ⟨w.heap.size, 0, none⟩), .int .u64 150] 189)) := ((Bel.refl w).alloc _).alloc _
  have n8 := asIsNilP ⟨w.heap.size, 0, none⟩ t ((w.alloc (.cells #[.pointer (some t)] 126)).alloc (.cells #[.pointer (some ⟨4, 126, none⟩), .pointer (some ⟨w.heap.size, 0, none⟩), .int .u64 150] 189)) (by simp)
  have hg2 := hba.c hg
  have ht2 := hba.c ht
  have hf2 := hba.f ht hf
  have HIN := Lib.hid (hin _ ⟨w.heap.size, 0, none⟩ hba (by simp) ht2 hf2)
  have HBA := Lib.hid hba
  clear hin ht hf ht2 hf2 hba
  go_enter Tryz.func92, Tryz.ntmps92
  go_wp2_with fail
  refine HIN.out.mono ?_
  rintro e w1 ⟨rfl, hg1, hc1, hf1⟩
  have HFIN : Hid (w.grownBy w1 (some t.block)) := grown_trans (HBA.out.grownBy _) hg1
  clear hg1 HBA
  have HC := Lib.hid hc1
  have HF := Lib.hid hf1
  clear hc1 hf1
  go_wp2
  go_ret
  exact ⟨rfl, HFIN.out, HC.out, HF.out⟩
end Go.Proofs.YtkklmflclmgjeaaGreatDoor

/-
  Schema: names: which letters may stand in one.
-/
set_option linter.unusedVariables false
set_option linter.unusedSimpArgs false
set_option linter.unusedVariables false
set_option linter.unusedSimpArgs false
namespace Go.Proofs.YtkklmflclmgjeaaGreatDoor
open Go.RowKit Go.Shelf Go.Lib
attribute [local go_sem] Oper.semAt_some

def letterB (first : Bool) (c : Int) : Bool := if c = 95 ∨ (48 ≤ c ∧ c ≤ 57) then !first else decide (97 ≤ c ∧ c ≤ 122)
theorem letterC_any (first : Bool) (c : Int) (b : Nat) (w : World) (h : w.cell? ⟨b, 0, none⟩ = some (.bool first)) :
    Calls Tryz.prog 177 #[.int .i32 c, .pointer (some ⟨b, 0, none⟩)] w fun e w' => e = .returned (.bool (letterB first c)) ∧ Bel w w' := by
  by_cases h1 : c = 95
  · subst h1
    cases first
    all_goals
      go_enter Tryz.func177, Tryz.ntmps177
      go_wp2
      go_ret
      exact ⟨rfl, by (repeat (first | exact Below.refl _ _ | assumption | exact Bel.refl _ | refine Bel.alloc ?_ _ | refine Bel.drew ?_ | refine Bel.drewN ?_ _ | refine Bel.then_ ?_ (by assumption) | refine Bel.setCell ?_ (by first | (simp; done) | (simp; omega)) _))⟩
  · have b1 : (c == 95) = false := by simp; exact h1
    by_cases h2 : 48 ≤ c
    · by_cases h3 : c ≤ 57
      · have e1 : letterB first c = !first := by unfold letterB; rw [if_pos (.inr ⟨h2, h3⟩)]
        rw [e1]
        cases first
        all_goals
          go_enter Tryz.func177, Tryz.ntmps177
          go_wp2
          go_ret
          exact ⟨rfl, by (repeat (first | exact Below.refl _ _ | assumption | exact Bel.refl _ | refine Bel.alloc ?_ _ | refine Bel.drew ?_ | refine Bel.drewN ?_ _ | refine Bel.then_ ?_ (by assumption) | refine Bel.setCell ?_ (by first | (simp; done) | (simp; omega)) _))⟩
      · have e1 : letterB first c = decide (97 ≤ c ∧ c ≤ 122) := by unfold letterB; rw [if_neg (by omega)]
        rw [e1]
        by_cases h4 : 97 ≤ c
        · by_cases h5 : c ≤ 122
          · rw [decide_eq_true ⟨h4, h5⟩]
            go_enter Tryz.func177, Tryz.ntmps177
            go_wp2
            go_ret
            exact ⟨rfl, by (repeat (first | exact Below.refl _ _ | assumption | exact Bel.refl _ | refine Bel.alloc ?_ _ | refine Bel.drew ?_ | refine Bel.drewN ?_ _ | refine Bel.then_ ?_ (by assumption) | refine Bel.setCell ?_ (by first | (simp; done) | (simp; omega)) _))⟩
          · rw [decide_eq_false (by omega)]
            go_enter Tryz.func177, Tryz.ntmps177
            go_wp2
            go_ret
            exact ⟨rfl, by (repeat (first | exact Below.refl _ _ | assumption | exact Bel.refl _ | refine Bel.alloc ?_ _ | refine Bel.drew ?_ | refine Bel.drewN ?_ _ | refine Bel.then_ ?_ (by assumption) | refine Bel.setCell ?_ (by first | (simp; done) | (simp; omega)) _))⟩
        · rw [decide_eq_false (by omega)]
          go_enter Tryz.func177, Tryz.ntmps177
          go_wp2
          go_ret
          exact ⟨rfl, by (repeat (first | exact Below.refl _ _ | assumption | exact Bel.refl _ | refine Bel.alloc ?_ _ | refine Bel.drew ?_ | refine Bel.drewN ?_ _ | refine Bel.then_ ?_ (by assumption) | refine Bel.setCell ?_ (by first | (simp; done) | (simp; omega)) _))⟩
    · have e1 : letterB first c = decide (97 ≤ c ∧ c ≤ 122) := by unfold letterB; rw [if_neg (by omega)]
      rw [e1, decide_eq_false (by omega)]
      have h4 : ¬ 97 ≤ c := by omega
      go_enter Tryz.func177, Tryz.ntmps177
      go_wp2
      go_ret
      exact ⟨rfl, by (repeat (first | exact Below.refl _ _ | assumption | exact Bel.refl _ | refine Bel.alloc ?_ _ | refine Bel.drew ?_ | refine Bel.drewN ?_ _ | refine Bel.then_ ?_ (by assumption) | refine Bel.setCell ?_ (by first | (simp; done) | (simp; omega)) _))⟩
theorem letter_any (first : Bool) (w : World) : Calls Tryz.prog 160 #[.bool first] w fun e w' => e = .returned (.func (.func 177) #[] #[.pointer (some ⟨w.heap.size, 0, none⟩)]) ∧ Bel w w' ∧ w'.cell? ⟨w.heap.size, 0, none⟩ = some (.bool first) := by
  go_enter Tryz.func160, Tryz.ntmps160
  go_wp2
  go_ret
  exact ⟨rfl, by (repeat (first | exact Below.refl _ _ | assumption | exact Bel.refl _ | refine Bel.alloc ?_ _ | refine Bel.drew ?_ | refine Bel.drewN ?_ _ | refine Bel.then_ ?_ (by assumption) | refine Bel.setCell ?_ (by first | (simp; done) | (simp; omega)) _)), by go_simp⟩
/-- What is asked of a function of a rune. -/
def RuneP (g : Nat) (lb : Array Value) (p : Int → Bool) (w : World) : Prop := ∀ W, Bel w W → ∀ c : Int, Calls Tryz.prog g (#[.int .i32 c] ++ lb) W fun e w' => e = .returned (.bool (p c)) ∧ Bel W w'
def idxR (p : Int → Bool) (s : ByteArray) : Nat → Nat → Int
  | 0, _ => -1
  | f + 1, pos => if pos < s.size then (if p (Utf8.decode s pos).1 = true then (pos : Int) else idxR p s f (pos + (Utf8.decode s pos).2)) else -1
theorem idxR_end (p : Int → Bool) (s : ByteArray) (f pos : Nat) (h : ¬ pos < s.size) : idxR p s f pos = -1 := by cases f <;> simp [idxR, h]
set_option maxHeartbeats 2000000 in
theorem indexFunc_any (g : Nat) (lb : Array Value) (eg : ∀ args w, (callFunc g args).run Tryz.prog w = .ok (.enter g args) w) (p : Int → Bool) (s : ByteArray) (w : World) (hp : RuneP g lb p w) :
    Calls Tryz.prog 184 #[.string s, .func (.func g) #[] lb, .bool true] w fun e w' => e = .returned (.int .i64 (idxR p s s.size 0)) ∧ Bel w w' := by
  have HP := Lib.hid hp
  clear hp
  go_enter Tryz.func184, Tryz.ntmps184
  go_wp2
  go_loopg [] s.size (fun gf wx => ∃ pos : Nat, wx.heap[w.heap.size]? = some (.stringIter s pos) ∧ Bel w wx ∧ idxR p s gf pos = idxR p s s.size 0 ∧ s.size ≤ pos + gf)
  case atStart => exact ⟨0, World.iter_heap w s 0, (Below.refl _ w).alloc (Nat.le_refl _) _, rfl, by omega⟩
  case round =>
    obtain ⟨pos, hit, hbw, hleft, hfu⟩ := hrel
    by_cases hps : pos < s.size
    · obtain ⟨g', rfl⟩ : ∃ g', gk = g' + 1 := ⟨gk - 1, by omega⟩
      have hnx : ∀ ty, (Instr.next (.pointer (some ⟨w.heap.size, 0, none⟩)) true ty).run Tryz.prog wr = _ := fun ty => Lib.run_next_any_at wr w.heap.size s pos ty hit hps
      have hwd := Lib.width_pos s pos
      obtain ⟨R, hR⟩ : ∃ R, (Utf8.decode s pos).1 = R := ⟨_, rfl⟩
      obtain ⟨K, hK⟩ : ∃ K, (Utf8.decode s pos).2 = K := ⟨_, rfl⟩
      simp only [idxR, hps, if_true, hR, hK] at hleft
      rw [hR, hK] at hnx
      rw [hK] at hwd
      have hit2 := Lib.iterAt_heap wr w.heap.size s pos (pos + K) hit
      have hbw2 : Bel w (wr.iterAt w.heap.size s (pos + K)) := Lib.below_iterAt hbw (k := w.heap.size) (Nat.le_refl _) s (pos + K)
      obtain ⟨W, hWd⟩ : ∃ W, wr.iterAt w.heap.size s (pos + K) = W := ⟨_, rfl⟩
      rw [hWd] at hnx hit2 hbw2
      have cS : Calls Tryz.prog g (#[.int .i32 (R : Int)] ++ lb) W _ := HP.out W hbw2 R
      have hsz : w.heap.size < W.heap.size := (Array.getElem?_eq_some_iff.1 hit2).1
      cases hsp : p R <;> rw [hsp] at cS <;> simp only [hsp, if_true, Bool.false_eq_true, if_false] at hleft
      · go_wp2_with (go_at_fn g; refine cS.mono ?_; rintro e W' ⟨rfl, hq⟩)
        go_roundg g'
        case measure => omega
        case rel => exact ⟨pos + K, (hq.block w.heap.size hsz).trans hit2, hbw2.then_ hq, hleft, by omega⟩
      · go_wp2_with (go_at_fn g; refine cS.mono ?_; rintro e W' ⟨rfl, hq⟩)
        go_ret
        exact ⟨by rw [← hleft] <;> rfl, hbw2.then_ hq⟩
    · have hnx : ∀ ty, (Instr.next (.pointer (some ⟨w.heap.size, 0, none⟩)) true ty).run Tryz.prog wr = _ := fun ty => Lib.run_next_end_at wr w.heap.size s pos ty hit hps
      rw [idxR_end p s gk pos hps] at hleft
      go_wp2
      go_ret
      exact ⟨by rw [← hleft] <;> rfl, hbw⟩
theorem ContainsFunc_any (g : Nat) (lb : Array Value) (eg : ∀ args w, (callFunc g args).run Tryz.prog w = .ok (.enter g args) w) (p : Int → Bool) (s : ByteArray) (w : World) (hp : RuneP g lb p w) :
    Calls Tryz.prog 161 #[.string s, .func (.func g) #[] lb] w fun e w' => e = .returned (.bool (decide (0 ≤ idxR p s s.size 0))) ∧ Bel w w' := by
  have HI := Lib.hid (indexFunc_any g lb eg p s w hp)
  clear hp eg
  go_enter Tryz.func161, Tryz.ntmps161
  go_wp2_with (first | (go_at_call 184; refine HI.out.mono ?_; rintro e w1 ⟨rfl, hb⟩) | (go_at_call 178; go_in))
  go_ret
  exact ⟨rfl, hb⟩
theorem namedC_any (c : Int) (bo b : Nat) (w : World) (ho : w.cell? ⟨bo, 0, none⟩ = some (.func (.func 177) #[] #[.pointer (some ⟨b, 0, none⟩)])) (hb : w.cell? ⟨b, 0, none⟩ = some (.bool false)) :
    Calls Tryz.prog 162 #[.int .i32 c, .pointer (some ⟨bo, 0, none⟩)] w fun e w' => e = .returned (.bool (!letterB false c)) ∧ Bel w w' := by
  have H := Lib.hid (letterC_any false c b w hb)
  have eg : ∀ args w, (callFunc 177 args).run Tryz.prog w = .ok (.enter 177 args) w := enters_of Tryz.func177 (by kernel_rfl) rfl
  clear hb
  go_enter Tryz.func162, Tryz.ntmps162
  go_wp2_with (go_at_fn 177; refine H.out.mono ?_; rintro e w1 ⟨rfl, hb⟩)
  go_ret
  exact ⟨rfl, hb⟩
def runesFine (s : ByteArray) : Bool := !decide (0 ≤ idxR (fun c => !letterB false c) s s.size 0)
def namedB (s : ByteArray) : Bool := if h : 1 ≤ s.size ∧ s.size ≤ 24 then letterB true (s[0]'(by omega)).toNat && runesFine s else false
set_option maxHeartbeats 2000000 in
theorem named_any (s : ByteArray) (w : World) : Calls Tryz.prog 139 #[.string s] w fun e w' => e = .returned (.bool (namedB s)) ∧ Bel w w' := by
  have eg : ∀ args w, (callFunc 177 args).run Tryz.prog w = .ok (.enter 177 args) w := enters_of Tryz.func177 (by kernel_rfl) rfl
  have eg2 : ∀ args w, (callFunc 162 args).run Tryz.prog w = .ok (.enter 162 args) w := enters_of Tryz.func162 (by kernel_rfl) rfl
  have HL := Lib.hid (letter_any false w)
  obtain ⟨R, hR⟩ : ∃ R, R = namedB s := ⟨_, rfl⟩
  rw [← hR]
  go_enter Tryz.func139, Tryz.ntmps139
  go_wp2_with (go_at_call 160; refine HL.out.mono ?_; rintro e w1 ⟨rfl, hb1, hc1⟩)
  obtain ⟨w2, hw2⟩ : ∃ w2, w2 = w1.alloc (.cells #[.func (.func 177) #[] #[.pointer (some ⟨w.heap.size, 0, none⟩)]] 233) := ⟨_, rfl⟩
  rw [← hw2]
  have hb2 : Bel w w2 := by rw [hw2]; exact hb1.then_ ((Bel.refl w1).alloc _)
  have hc2 : w2.cell? ⟨w1.heap.size, 0, none⟩ = some (.func (.func 177) #[] #[.pointer (some ⟨w.heap.size, 0, none⟩)]) := by rw [hw2]; go_simp
  have hd2 : w2.cell? ⟨w.heap.size, 0, none⟩ = some (.bool false) := by
    have h3 : Bel w1 w2 := by rw [hw2]; exact (Bel.refl w1).alloc _
    exact h3.c hc1
  have HB2 := Lib.hid hb2
  have HN := Lib.hid (fun V (hV : Bel w2 V) => ContainsFunc_any 162 #[.pointer (some ⟨w1.heap.size, 0, none⟩)] eg2 (fun c => !letterB false c) s V (fun W hW c => namedC_any c w1.heap.size w.heap.size W ((hV.then_ hW).c hc2) ((hV.then_ hW).c hd2)))
  clear hb1 hc1 hw2 hb2 hc2 hd2 HL
  by_cases h1 : 1 ≤ s.size
  · have h1I : (1 : Int) ≤ s.size := by omega
    by_cases h2 : s.size ≤ 24
    · have h2I : (s.size : Int) ≤ 24 := by omega
      obtain ⟨c0, hc0⟩ : ∃ c0, c0 = letterB true (s[0]'(by omega)).toNat := ⟨_, rfl⟩
      have hnb : namedB s = (c0 && runesFine s) := by unfold namedB; rw [dif_pos ⟨h1, h2⟩, hc0]
      rw [hnb] at hR
      clear hnb
      have h00 : 0 < s.size := by omega
      have hwr : IntKind.i32.wrap ((s[0]'(by omega)).toNat : Int) = (s[0]'(by omega)).toNat := by
        have := UInt8.toNat_lt (s[0]'(by omega))
        simp [IntKind.wrap, IntKind.bits, IntKind.signed]
        omega
      cases c0
      · have hlt : letterB true ((s[0]'(by omega)).toNat : Int) = false := hc0.symm
        have HLX := Lib.hid (fun (V : World) b (h : V.cell? ⟨b, 0, none⟩ = some (.bool true)) => letterC_any true ((s[0]'(by omega)).toNat : Int) b V h)
        rw [hlt] at HLX
        clear hc0 hlt
        simp only [Bool.false_and] at hR
        refine wp_region_noPanic ?_
        refine wp_region_held_drew (S := (fun V : World => Bel w2 V)) (by kernel_rfl) ?_ (fun hHr1_0 => ?_)
        · (try dsimp only); (first | assumption | exact (Bel.refl w2).drew | exact Bel.then_ (by assumption) (by assumption))
        refine wpAnyH_take (i := 0) (oi := _) (v := ?vr1_1_0) rfl (by kernel_rfl) (by kernel_rfl) (by kernel_rfl) ?hqr1_1_0 (Or.inl ⟨by kernel_rfl, ?hyr1_1_0⟩) (by assumption) ?restr1_1_0
        case hqr1_1_0 => exact fun _ _ _ h => h
        case hyr1_1_0 => (intro w hSw; (try dsimp only at hSw); go_simp; try with_reducible rfl)
        try simp only [Act.put, List.getElem_toArray, List.getElem_cons_succ, List.getElem_cons_zero, List.setIfInBounds_toArray, List.set_cons_zero, List.set_cons_succ]
        refine wpAnyH_take (i := 1) (oi := _) (v := ?vr1_1_1) rfl (by kernel_rfl) (by kernel_rfl) (by kernel_rfl) ?hqr1_1_1 (Or.inl ⟨by kernel_rfl, ?hyr1_1_1⟩) (by assumption) ?restr1_1_1
        case hqr1_1_1 => exact fun _ _ _ h => h
        case hyr1_1_1 => (intro w hSw; (try dsimp only at hSw); go_simp; try with_reducible rfl)
        try simp only [Act.put, List.getElem_toArray, List.getElem_cons_succ, List.getElem_cons_zero, List.setIfInBounds_toArray, List.set_cons_zero, List.set_cons_succ]
        refine wpAnyH_take (i := 2) (oi := _) (v := ?vr1_1_2) rfl (by kernel_rfl) (by kernel_rfl) (by kernel_rfl) ?hqr1_1_2 (Or.inl ⟨by kernel_rfl, ?hyr1_1_2⟩) (by assumption) ?restr1_1_2
        case hqr1_1_2 => exact fun _ _ _ h => h
        case hyr1_1_2 => (intro w hSw; (try dsimp only at hSw); go_simp; try with_reducible rfl)
        try simp only [Act.put, List.getElem_toArray, List.getElem_cons_succ, List.getElem_cons_zero, List.setIfInBounds_toArray, List.set_cons_zero, List.set_cons_succ]
        refine wpAnyH_take (i := 3) (oi := _) (v := ?vr1_1_3) rfl (by kernel_rfl) (by kernel_rfl) (by kernel_rfl) ?hqr1_1_3 (Or.inl ⟨by kernel_rfl, ?hyr1_1_3⟩) (by assumption) ?restr1_1_3
        case hqr1_1_3 => exact fun _ _ _ h => h
        case hyr1_1_3 => (intro w hSw; (try dsimp only at hSw); go_simp; try with_reducible rfl)
        try simp only [Act.put, List.getElem_toArray, List.getElem_cons_succ, List.getElem_cons_zero, List.setIfInBounds_toArray, List.set_cons_zero, List.set_cons_succ]
        refine wpAnyH_take (i := 4) (oi := _) (v := ?vr1_1_4) rfl (by kernel_rfl) (by kernel_rfl) (by kernel_rfl) ?hqr1_1_4 (Or.inl ⟨by kernel_rfl, ?hyr1_1_4⟩) (by assumption) ?restr1_1_4
        case hqr1_1_4 => exact fun _ _ _ h => h
        case hyr1_1_4 => (intro w hSw; (try dsimp only at hSw); go_simp; try with_reducible rfl)
        try simp only [Act.put, List.getElem_toArray, List.getElem_cons_succ, List.getElem_cons_zero, List.setIfInBounds_toArray, List.set_cons_zero, List.set_cons_succ]
        refine wpAnyH_take (i := 5) (oi := _) (v := ?vr1_1_5) rfl (by kernel_rfl) (by kernel_rfl) (by kernel_rfl) ?hqr1_1_5 (Or.inl ⟨by kernel_rfl, ?hyr1_1_5⟩) (by assumption) ?restr1_1_5
        case hqr1_1_5 => exact fun _ _ _ h => h
        case hyr1_1_5 => (intro w hSw; (try dsimp only at hSw); go_simp; try with_reducible rfl)
        try simp only [Act.put, List.getElem_toArray, List.getElem_cons_succ, List.getElem_cons_zero, List.setIfInBounds_toArray, List.set_cons_zero, List.set_cons_succ]
        refine wpAnyH_take (i := 6) (oi := _) (v := ?vr1_1_6) rfl (by kernel_rfl) (by kernel_rfl) (by kernel_rfl) ?hqr1_1_6 (Or.inl ⟨by kernel_rfl, ?hyr1_1_6⟩) (by assumption) ?restr1_1_6
        case hqr1_1_6 => exact fun _ _ _ h => h
        case hyr1_1_6 => (intro w hSw; (try dsimp only at hSw); go_simp; try with_reducible rfl)
        try simp only [Act.put, List.getElem_toArray, List.getElem_cons_succ, List.getElem_cons_zero, List.setIfInBounds_toArray, List.set_cons_zero, List.set_cons_succ]
        refine wpAnyH_take (i := 7) (oi := _) (v := ?vr1_1_7) rfl (by kernel_rfl) (by kernel_rfl) (by kernel_rfl) ?hqr1_1_7 (Or.inl ⟨by kernel_rfl, ?hyr1_1_7⟩) (by assumption) ?restr1_1_7
        case hqr1_1_7 => exact fun _ _ _ h => h
        case hyr1_1_7 => (intro w hSw; (try dsimp only at hSw); go_simp; try with_reducible rfl)
        try simp only [Act.put, List.getElem_toArray, List.getElem_cons_succ, List.getElem_cons_zero, List.setIfInBounds_toArray, List.set_cons_zero, List.set_cons_succ]
        refine wpAnyH_take (i := 8) (oi := _) (v := ?vr1_1_8) rfl (by kernel_rfl) (by kernel_rfl) (by kernel_rfl) ?hqr1_1_8 (Or.inl ⟨by kernel_rfl, ?hyr1_1_8⟩) (by assumption) ?restr1_1_8
        case hqr1_1_8 => exact fun _ _ _ h => h
        case hyr1_1_8 => (intro w hSw; (try dsimp only at hSw); go_simp; try with_reducible rfl)
        try simp only [Act.put, List.getElem_toArray, List.getElem_cons_succ, List.getElem_cons_zero, List.setIfInBounds_toArray, List.set_cons_zero, List.set_cons_succ]
        refine wpAnyH_take (i := 10) (oi := _) (v := ?vr1_1_10) rfl (by kernel_rfl) (by kernel_rfl) (by kernel_rfl) ?hqr1_1_10 (Or.inl ⟨by kernel_rfl, ?hyr1_1_10⟩) (by assumption) ?restr1_1_10
        case hqr1_1_10 => exact fun _ _ _ h => h
        case hyr1_1_10 => (intro w hSw; (try dsimp only at hSw); go_simp; try with_reducible rfl)
        try simp only [Act.put, List.getElem_toArray, List.getElem_cons_succ, List.getElem_cons_zero, List.setIfInBounds_toArray, List.set_cons_zero, List.set_cons_succ]
        refine wpAnyH_take (i := 11) (oi := _) (v := ?vr1_1_11) rfl (by kernel_rfl) (by kernel_rfl) (by kernel_rfl) ?hqr1_1_11 (Or.inl ⟨by kernel_rfl, ?hyr1_1_11⟩) (by assumption) ?restr1_1_11
        case hqr1_1_11 => exact fun _ _ _ h => h
        case hyr1_1_11 => (intro w hSw; (try dsimp only at hSw); go_simp; try with_reducible rfl)
        try simp only [Act.put, List.getElem_toArray, List.getElem_cons_succ, List.getElem_cons_zero, List.setIfInBounds_toArray, List.set_cons_zero, List.set_cons_succ]
        refine wpAnyH_take (i := 12) (oi := _) (v := ?vr1_1_12) rfl (by kernel_rfl) (by kernel_rfl) (by kernel_rfl) ?hqr1_1_12 (Or.inl ⟨by kernel_rfl, ?hyr1_1_12⟩) (by assumption) ?restr1_1_12
        case hqr1_1_12 => exact fun _ _ _ h => h
        case hyr1_1_12 => (intro w hSw; (try dsimp only at hSw); go_simp; try with_reducible rfl)
        try simp only [Act.put, List.getElem_toArray, List.getElem_cons_succ, List.getElem_cons_zero, List.setIfInBounds_toArray, List.set_cons_zero, List.set_cons_succ]
        refine wpAnyH_ready (rs := [9]) (by kernel_rfl) (by simp) ?_
        refine AllReadyH.cons (o := _) rfl (fun K hK => ?_) AllReadyH.nil
        go_simp
        (go_at_call 160; refine (letter_any true _).mono ?_; rintro e w3 ⟨rfl, hb3, hc3⟩)
        try (go_wp2_with fail)
        refine hK.out _ _ ?_ (fun hHr1_1 => ?_)
        · (try dsimp only); (first | assumption | exact (Bel.refl w2).drew | exact Bel.then_ (by assumption) (by assumption))
        clear hK K hHr1_0
        try simp only [Act.put, List.getElem_toArray, List.getElem_cons_succ, List.getElem_cons_zero, List.setIfInBounds_toArray, List.set_cons_zero, List.set_cons_succ]
        refine wpAnyH_ready (rs := [13]) (by kernel_rfl) (by simp) ?_
        refine AllReadyH.cons (o := _) rfl (fun K hK => ?_) AllReadyH.nil
        go_simp
        (go_at_fn 177; refine (HLX.out _ _ hc3).mono ?_; rintro e w4 ⟨rfl, hb4⟩)
        try (go_wp2_with fail)
        refine hK.out _ _ ?_ (fun hHr1_2 => ?_)
        · (try dsimp only); (first | assumption | exact (Bel.refl w2).drew | exact Bel.then_ (by assumption) (by assumption))
        clear hK K hHr1_1
        try simp only [Act.put, List.getElem_toArray, List.getElem_cons_succ, List.getElem_cons_zero, List.setIfInBounds_toArray, List.set_cons_zero, List.set_cons_succ]
        refine wpAnyH_take (i := 14) (oi := _) (v := ?vr1_1_14) rfl (by kernel_rfl) (by kernel_rfl) (by kernel_rfl) ?hqr1_1_14 (Or.inl ⟨by kernel_rfl, ?hyr1_1_14⟩) (by assumption) ?restr1_1_14
        case hqr1_1_14 => exact fun _ _ _ h => h
        case hyr1_1_14 => (intro w hSw; (try dsimp only at hSw); go_simp; try with_reducible rfl)
        try simp only [Act.put, List.getElem_toArray, List.getElem_cons_succ, List.getElem_cons_zero, List.setIfInBounds_toArray, List.set_cons_zero, List.set_cons_succ]
        refine wpAnyH_take (i := 15) (oi := _) (v := ?vr1_1_15) rfl (by kernel_rfl) (by kernel_rfl) (by kernel_rfl) ?hqr1_1_15 (Or.inl ⟨by kernel_rfl, ?hyr1_1_15⟩) (by assumption) ?restr1_1_15
        case hqr1_1_15 => exact fun _ _ _ h => h
        case hyr1_1_15 => (intro w hSw; (try dsimp only at hSw); go_simp; try with_reducible rfl)
        try simp only [Act.put, List.getElem_toArray, List.getElem_cons_succ, List.getElem_cons_zero, List.setIfInBounds_toArray, List.set_cons_zero, List.set_cons_succ]
        refine wpAnyH_take (i := 16) (oi := _) (v := undef) rfl (by kernel_rfl) (by kernel_rfl) (by kernel_rfl) (fun _ _ _ h => h) (Or.inr ⟨by kernel_rfl, rfl⟩) (by assumption) ?restr1_1_16
        try simp only [Act.put, List.getElem_toArray, List.getElem_cons_succ, List.getElem_cons_zero, List.setIfInBounds_toArray, List.set_cons_zero, List.set_cons_succ]
        refine wpAnyH_take (i := 17) (oi := _) (v := undef) rfl (by kernel_rfl) (by kernel_rfl) (by kernel_rfl) (fun _ _ _ h => h) (Or.inr ⟨by kernel_rfl, rfl⟩) (by assumption) ?restr1_1_17
        try simp only [Act.put, List.getElem_toArray, List.getElem_cons_succ, List.getElem_cons_zero, List.setIfInBounds_toArray, List.set_cons_zero, List.set_cons_succ]
        refine wpAnyH_take (i := 18) (oi := _) (v := undef) rfl (by kernel_rfl) (by kernel_rfl) (by kernel_rfl) (fun _ _ _ h => h) (Or.inr ⟨by kernel_rfl, rfl⟩) (by assumption) ?restr1_1_18
        try simp only [Act.put, List.getElem_toArray, List.getElem_cons_succ, List.getElem_cons_zero, List.setIfInBounds_toArray, List.set_cons_zero, List.set_cons_succ]
        refine wpAnyH_take (i := 19) (oi := _) (v := undef) rfl (by kernel_rfl) (by kernel_rfl) (by kernel_rfl) (fun _ _ _ h => h) (Or.inr ⟨by kernel_rfl, rfl⟩) (by assumption) ?restr1_1_19
        try simp only [Act.put, List.getElem_toArray, List.getElem_cons_succ, List.getElem_cons_zero, List.setIfInBounds_toArray, List.set_cons_zero, List.set_cons_succ]
        refine wpAnyH_take (i := 20) (oi := _) (v := ?vr1_1_20) rfl (by kernel_rfl) (by kernel_rfl) (by kernel_rfl) ?hqr1_1_20 (Or.inl ⟨by kernel_rfl, ?hyr1_1_20⟩) (by assumption) ?restr1_1_20
        case hqr1_1_20 => exact fun _ _ _ h => h
        case hyr1_1_20 => (intro w hSw; (try dsimp only at hSw); go_simp; try with_reducible rfl)
        try simp only [Act.put, List.getElem_toArray, List.getElem_cons_succ, List.getElem_cons_zero, List.setIfInBounds_toArray, List.set_cons_zero, List.set_cons_succ]
        refine wpAnyH_take (i := 21) (oi := _) (v := ?vr1_1_21) rfl (by kernel_rfl) (by kernel_rfl) (by kernel_rfl) ?hqr1_1_21 (Or.inl ⟨by kernel_rfl, ?hyr1_1_21⟩) (by assumption) ?restr1_1_21
        case hqr1_1_21 => exact fun _ _ _ h => h
        case hyr1_1_21 => (intro w hSw; (try dsimp only at hSw); go_simp; try with_reducible rfl)
        try simp only [Act.put, List.getElem_toArray, List.getElem_cons_succ, List.getElem_cons_zero, List.setIfInBounds_toArray, List.set_cons_zero, List.set_cons_succ]
        refine wpAnyH_done (by kernel_rfl) ?_ _
        refine NoPanic.normal ?_
        go_wp2
        go_ret
        exact ⟨by rw [hR]; rfl, HB2.out.then_ hHr1_2⟩
      · have hlt : letterB true ((s[0]'(by omega)).toNat : Int) = true := hc0.symm
        have HLX := Lib.hid (fun (V : World) b (h : V.cell? ⟨b, 0, none⟩ = some (.bool true)) => letterC_any true ((s[0]'(by omega)).toNat : Int) b V h)
        rw [hlt] at HLX
        clear hc0 hlt
        simp only [Bool.true_and] at hR
        obtain ⟨D, hD⟩ : ∃ D, D = decide (0 ≤ idxR (fun c => !letterB false c) s s.size 0) := ⟨_, rfl⟩
        rw [← hD] at HN
        have hRD : R = !D := by rw [hR, hD]; rfl
        clear hD hR
        refine wp_region_noPanic ?_
        refine wp_region_held_drew (S := (fun V : World => Bel w2 V)) (by kernel_rfl) ?_ (fun hHr2_0 => ?_)
        · (try dsimp only); (first | assumption | exact (Bel.refl w2).drew | exact Bel.then_ (by assumption) (by assumption))
        refine wpAnyH_take (i := 0) (oi := _) (v := ?vr2_1_0) rfl (by kernel_rfl) (by kernel_rfl) (by kernel_rfl) ?hqr2_1_0 (Or.inl ⟨by kernel_rfl, ?hyr2_1_0⟩) (by assumption) ?restr2_1_0
        case hqr2_1_0 => exact fun _ _ _ h => h
        case hyr2_1_0 => (intro w hSw; (try dsimp only at hSw); go_simp; try with_reducible rfl)
        try simp only [Act.put, List.getElem_toArray, List.getElem_cons_succ, List.getElem_cons_zero, List.setIfInBounds_toArray, List.set_cons_zero, List.set_cons_succ]
        refine wpAnyH_take (i := 1) (oi := _) (v := ?vr2_1_1) rfl (by kernel_rfl) (by kernel_rfl) (by kernel_rfl) ?hqr2_1_1 (Or.inl ⟨by kernel_rfl, ?hyr2_1_1⟩) (by assumption) ?restr2_1_1
        case hqr2_1_1 => exact fun _ _ _ h => h
        case hyr2_1_1 => (intro w hSw; (try dsimp only at hSw); go_simp; try with_reducible rfl)
        try simp only [Act.put, List.getElem_toArray, List.getElem_cons_succ, List.getElem_cons_zero, List.setIfInBounds_toArray, List.set_cons_zero, List.set_cons_succ]
        refine wpAnyH_take (i := 2) (oi := _) (v := ?vr2_1_2) rfl (by kernel_rfl) (by kernel_rfl) (by kernel_rfl) ?hqr2_1_2 (Or.inl ⟨by kernel_rfl, ?hyr2_1_2⟩) (by assumption) ?restr2_1_2
        case hqr2_1_2 => exact fun _ _ _ h => h
        case hyr2_1_2 => (intro w hSw; (try dsimp only at hSw); go_simp; try with_reducible rfl)
        try simp only [Act.put, List.getElem_toArray, List.getElem_cons_succ, List.getElem_cons_zero, List.setIfInBounds_toArray, List.set_cons_zero, List.set_cons_succ]
        refine wpAnyH_take (i := 3) (oi := _) (v := ?vr2_1_3) rfl (by kernel_rfl) (by kernel_rfl) (by kernel_rfl) ?hqr2_1_3 (Or.inl ⟨by kernel_rfl, ?hyr2_1_3⟩) (by assumption) ?restr2_1_3
        case hqr2_1_3 => exact fun _ _ _ h => h
        case hyr2_1_3 => (intro w hSw; (try dsimp only at hSw); go_simp; try with_reducible rfl)
        try simp only [Act.put, List.getElem_toArray, List.getElem_cons_succ, List.getElem_cons_zero, List.setIfInBounds_toArray, List.set_cons_zero, List.set_cons_succ]
        refine wpAnyH_take (i := 4) (oi := _) (v := ?vr2_1_4) rfl (by kernel_rfl) (by kernel_rfl) (by kernel_rfl) ?hqr2_1_4 (Or.inl ⟨by kernel_rfl, ?hyr2_1_4⟩) (by assumption) ?restr2_1_4
        case hqr2_1_4 => exact fun _ _ _ h => h
        case hyr2_1_4 => (intro w hSw; (try dsimp only at hSw); go_simp; try with_reducible rfl)
        try simp only [Act.put, List.getElem_toArray, List.getElem_cons_succ, List.getElem_cons_zero, List.setIfInBounds_toArray, List.set_cons_zero, List.set_cons_succ]
        refine wpAnyH_take (i := 5) (oi := _) (v := ?vr2_1_5) rfl (by kernel_rfl) (by kernel_rfl) (by kernel_rfl) ?hqr2_1_5 (Or.inl ⟨by kernel_rfl, ?hyr2_1_5⟩) (by assumption) ?restr2_1_5
        case hqr2_1_5 => exact fun _ _ _ h => h
        case hyr2_1_5 => (intro w hSw; (try dsimp only at hSw); go_simp; try with_reducible rfl)
        try simp only [Act.put, List.getElem_toArray, List.getElem_cons_succ, List.getElem_cons_zero, List.setIfInBounds_toArray, List.set_cons_zero, List.set_cons_succ]
        refine wpAnyH_take (i := 6) (oi := _) (v := ?vr2_1_6) rfl (by kernel_rfl) (by kernel_rfl) (by kernel_rfl) ?hqr2_1_6 (Or.inl ⟨by kernel_rfl, ?hyr2_1_6⟩) (by assumption) ?restr2_1_6
        case hqr2_1_6 => exact fun _ _ _ h => h
        case hyr2_1_6 => (intro w hSw; (try dsimp only at hSw); go_simp; try with_reducible rfl)
        try simp only [Act.put, List.getElem_toArray, List.getElem_cons_succ, List.getElem_cons_zero, List.setIfInBounds_toArray, List.set_cons_zero, List.set_cons_succ]
        refine wpAnyH_take (i := 7) (oi := _) (v := ?vr2_1_7) rfl (by kernel_rfl) (by kernel_rfl) (by kernel_rfl) ?hqr2_1_7 (Or.inl ⟨by kernel_rfl, ?hyr2_1_7⟩) (by assumption) ?restr2_1_7
        case hqr2_1_7 => exact fun _ _ _ h => h
        case hyr2_1_7 => (intro w hSw; (try dsimp only at hSw); go_simp; try with_reducible rfl)
        try simp only [Act.put, List.getElem_toArray, List.getElem_cons_succ, List.getElem_cons_zero, List.setIfInBounds_toArray, List.set_cons_zero, List.set_cons_succ]
        refine wpAnyH_take (i := 8) (oi := _) (v := ?vr2_1_8) rfl (by kernel_rfl) (by kernel_rfl) (by kernel_rfl) ?hqr2_1_8 (Or.inl ⟨by kernel_rfl, ?hyr2_1_8⟩) (by assumption) ?restr2_1_8
        case hqr2_1_8 => exact fun _ _ _ h => h
        case hyr2_1_8 => (intro w hSw; (try dsimp only at hSw); go_simp; try with_reducible rfl)
        try simp only [Act.put, List.getElem_toArray, List.getElem_cons_succ, List.getElem_cons_zero, List.setIfInBounds_toArray, List.set_cons_zero, List.set_cons_succ]
        refine wpAnyH_take (i := 10) (oi := _) (v := ?vr2_1_10) rfl (by kernel_rfl) (by kernel_rfl) (by kernel_rfl) ?hqr2_1_10 (Or.inl ⟨by kernel_rfl, ?hyr2_1_10⟩) (by assumption) ?restr2_1_10
        case hqr2_1_10 => exact fun _ _ _ h => h
        case hyr2_1_10 => (intro w hSw; (try dsimp only at hSw); go_simp; try with_reducible rfl)
        try simp only [Act.put, List.getElem_toArray, List.getElem_cons_succ, List.getElem_cons_zero, List.setIfInBounds_toArray, List.set_cons_zero, List.set_cons_succ]
        refine wpAnyH_take (i := 11) (oi := _) (v := ?vr2_1_11) rfl (by kernel_rfl) (by kernel_rfl) (by kernel_rfl) ?hqr2_1_11 (Or.inl ⟨by kernel_rfl, ?hyr2_1_11⟩) (by assumption) ?restr2_1_11
        case hqr2_1_11 => exact fun _ _ _ h => h
        case hyr2_1_11 => (intro w hSw; (try dsimp only at hSw); go_simp; try with_reducible rfl)
        try simp only [Act.put, List.getElem_toArray, List.getElem_cons_succ, List.getElem_cons_zero, List.setIfInBounds_toArray, List.set_cons_zero, List.set_cons_succ]
        refine wpAnyH_take (i := 12) (oi := _) (v := ?vr2_1_12) rfl (by kernel_rfl) (by kernel_rfl) (by kernel_rfl) ?hqr2_1_12 (Or.inl ⟨by kernel_rfl, ?hyr2_1_12⟩) (by assumption) ?restr2_1_12
        case hqr2_1_12 => exact fun _ _ _ h => h
        case hyr2_1_12 => (intro w hSw; (try dsimp only at hSw); go_simp; try with_reducible rfl)
        try simp only [Act.put, List.getElem_toArray, List.getElem_cons_succ, List.getElem_cons_zero, List.setIfInBounds_toArray, List.set_cons_zero, List.set_cons_succ]
        refine wpAnyH_ready (rs := [9]) (by kernel_rfl) (by simp) ?_
        refine AllReadyH.cons (o := _) rfl (fun K hK => ?_) AllReadyH.nil
        go_simp
        (go_at_call 160; refine (letter_any true _).mono ?_; rintro e w3 ⟨rfl, hb3, hc3⟩)
        try (go_wp2_with fail)
        refine hK.out _ _ ?_ (fun hHr2_1 => ?_)
        · (try dsimp only); (first | assumption | exact (Bel.refl w2).drew | exact Bel.then_ (by assumption) (by assumption))
        clear hK K hHr2_0
        try simp only [Act.put, List.getElem_toArray, List.getElem_cons_succ, List.getElem_cons_zero, List.setIfInBounds_toArray, List.set_cons_zero, List.set_cons_succ]
        refine wpAnyH_ready (rs := [13]) (by kernel_rfl) (by simp) ?_
        refine AllReadyH.cons (o := _) rfl (fun K hK => ?_) AllReadyH.nil
        go_simp
        (go_at_fn 177; refine (HLX.out _ _ hc3).mono ?_; rintro e w4 ⟨rfl, hb4⟩)
        try (go_wp2_with fail)
        refine hK.out _ _ ?_ (fun hHr2_2 => ?_)
        · (try dsimp only); (first | assumption | exact (Bel.refl w2).drew | exact Bel.then_ (by assumption) (by assumption))
        clear hK K hHr2_1
        try simp only [Act.put, List.getElem_toArray, List.getElem_cons_succ, List.getElem_cons_zero, List.setIfInBounds_toArray, List.set_cons_zero, List.set_cons_succ]
        refine wpAnyH_take (i := 14) (oi := _) (v := ?vr2_1_14) rfl (by kernel_rfl) (by kernel_rfl) (by kernel_rfl) ?hqr2_1_14 (Or.inl ⟨by kernel_rfl, ?hyr2_1_14⟩) (by assumption) ?restr2_1_14
        case hqr2_1_14 => exact fun _ _ _ h => h
        case hyr2_1_14 => (intro w hSw; (try dsimp only at hSw); go_simp; try with_reducible rfl)
        try simp only [Act.put, List.getElem_toArray, List.getElem_cons_succ, List.getElem_cons_zero, List.setIfInBounds_toArray, List.set_cons_zero, List.set_cons_succ]
        refine wpAnyH_take (i := 15) (oi := _) (v := ?vr2_1_15) rfl (by kernel_rfl) (by kernel_rfl) (by kernel_rfl) ?hqr2_1_15 (Or.inl ⟨by kernel_rfl, ?hyr2_1_15⟩) (by assumption) ?restr2_1_15
        case hqr2_1_15 => exact fun _ _ _ h => h
        case hyr2_1_15 => (intro w hSw; (try dsimp only at hSw); go_simp; try with_reducible rfl)
        try simp only [Act.put, List.getElem_toArray, List.getElem_cons_succ, List.getElem_cons_zero, List.setIfInBounds_toArray, List.set_cons_zero, List.set_cons_succ]
        refine wpAnyH_take (i := 16) (oi := _) (v := ?vr2_1_16) rfl (by kernel_rfl) (by kernel_rfl) (by kernel_rfl) ?hqr2_1_16 (Or.inl ⟨by kernel_rfl, ?hyr2_1_16⟩) (by assumption) ?restr2_1_16
        case hqr2_1_16 => exact fun _ _ _ h => h
        case hyr2_1_16 => (intro w hSw; (try dsimp only at hSw); go_simp; try with_reducible rfl)
        try simp only [Act.put, List.getElem_toArray, List.getElem_cons_succ, List.getElem_cons_zero, List.setIfInBounds_toArray, List.set_cons_zero, List.set_cons_succ]
        refine wpAnyH_take (i := 17) (oi := _) (v := ?vr2_1_17) rfl (by kernel_rfl) (by kernel_rfl) (by kernel_rfl) ?hqr2_1_17 (Or.inl ⟨by kernel_rfl, ?hyr2_1_17⟩) (by assumption) ?restr2_1_17
        case hqr2_1_17 => exact fun _ _ _ h => h
        case hyr2_1_17 => (intro w hSw; (try dsimp only at hSw); go_simp; try with_reducible rfl)
        try simp only [Act.put, List.getElem_toArray, List.getElem_cons_succ, List.getElem_cons_zero, List.setIfInBounds_toArray, List.set_cons_zero, List.set_cons_succ]
        refine wpAnyH_ready (rs := [18]) (by kernel_rfl) (by simp) ?_
        refine AllReadyH.cons (o := _) rfl (fun K hK => ?_) AllReadyH.nil
        go_simp
        (go_at_call 161; refine (HN.out _ (by assumption)).mono ?_; rintro e w5 ⟨rfl, hb5⟩)
        try (go_wp2_with fail)
        refine hK.out _ _ ?_ (fun hHr2_3 => ?_)
        · (try dsimp only); (first | assumption | exact (Bel.refl w2).drew | exact Bel.then_ (by assumption) (by assumption))
        clear hK K hHr2_2
        try simp only [Act.put, List.getElem_toArray, List.getElem_cons_succ, List.getElem_cons_zero, List.setIfInBounds_toArray, List.set_cons_zero, List.set_cons_succ]
        refine wpAnyH_take (i := 19) (oi := _) (v := ?vr2_1_19) rfl (by kernel_rfl) (by kernel_rfl) (by kernel_rfl) ?hqr2_1_19 (Or.inl ⟨by kernel_rfl, ?hyr2_1_19⟩) (by assumption) ?restr2_1_19
        case hqr2_1_19 => exact fun _ _ _ h => h
        case hyr2_1_19 => (intro w hSw; (try dsimp only at hSw); go_simp; try with_reducible rfl)
        try simp only [Act.put, List.getElem_toArray, List.getElem_cons_succ, List.getElem_cons_zero, List.setIfInBounds_toArray, List.set_cons_zero, List.set_cons_succ]
        refine wpAnyH_take (i := 20) (oi := _) (v := ?vr2_1_20) rfl (by kernel_rfl) (by kernel_rfl) (by kernel_rfl) ?hqr2_1_20 (Or.inl ⟨by kernel_rfl, ?hyr2_1_20⟩) (by assumption) ?restr2_1_20
        case hqr2_1_20 => exact fun _ _ _ h => h
        case hyr2_1_20 => (intro w hSw; (try dsimp only at hSw); go_simp; try with_reducible rfl)
        try simp only [Act.put, List.getElem_toArray, List.getElem_cons_succ, List.getElem_cons_zero, List.setIfInBounds_toArray, List.set_cons_zero, List.set_cons_succ]
        refine wpAnyH_take (i := 21) (oi := _) (v := ?vr2_1_21) rfl (by kernel_rfl) (by kernel_rfl) (by kernel_rfl) ?hqr2_1_21 (Or.inl ⟨by kernel_rfl, ?hyr2_1_21⟩) (by assumption) ?restr2_1_21
        case hqr2_1_21 => exact fun _ _ _ h => h
        case hyr2_1_21 => (intro w hSw; (try dsimp only at hSw); go_simp; try with_reducible rfl)
        try simp only [Act.put, List.getElem_toArray, List.getElem_cons_succ, List.getElem_cons_zero, List.setIfInBounds_toArray, List.set_cons_zero, List.set_cons_succ]
        refine wpAnyH_done (by kernel_rfl) ?_ _
        refine NoPanic.normal ?_
        go_wp2
        go_ret
        exact ⟨by rw [hRD]; rfl, HB2.out.then_ hHr2_3⟩
    · have h2I : decide ((s.size : Int) ≤ 24) = false := by simp; omega
      have hR2 : R = false := by rw [hR]; unfold namedB; rw [dif_neg (by omega)]
      subst hR2
      clear hR
      refine wp_region_noPanic ?_
      refine wp_region_held_drew (S := (fun V : World => Bel w2 V)) (by kernel_rfl) ?_ (fun hHr3_0 => ?_)
      · (try dsimp only); (first | assumption | exact (Bel.refl w2).drew)
      refine wpAnyH_take (i := 0) (oi := _) (v := ?vr3_1_0) rfl (by kernel_rfl) (by kernel_rfl) (by kernel_rfl) ?hqr3_1_0 (Or.inl ⟨by kernel_rfl, ?hyr3_1_0⟩) (by assumption) ?restr3_1_0
      case hqr3_1_0 => exact fun _ _ _ h => h
      case hyr3_1_0 => (intro w hSw; (try dsimp only at hSw); go_simp; try with_reducible rfl)
      try simp only [Act.put, List.getElem_toArray, List.getElem_cons_succ, List.getElem_cons_zero, List.setIfInBounds_toArray, List.set_cons_zero, List.set_cons_succ]
      refine wpAnyH_take (i := 1) (oi := _) (v := ?vr3_1_1) rfl (by kernel_rfl) (by kernel_rfl) (by kernel_rfl) ?hqr3_1_1 (Or.inl ⟨by kernel_rfl, ?hyr3_1_1⟩) (by assumption) ?restr3_1_1
      case hqr3_1_1 => exact fun _ _ _ h => h
      case hyr3_1_1 => (intro w hSw; (try dsimp only at hSw); go_simp; try with_reducible rfl)
      try simp only [Act.put, List.getElem_toArray, List.getElem_cons_succ, List.getElem_cons_zero, List.setIfInBounds_toArray, List.set_cons_zero, List.set_cons_succ]
      refine wpAnyH_take (i := 2) (oi := _) (v := ?vr3_1_2) rfl (by kernel_rfl) (by kernel_rfl) (by kernel_rfl) ?hqr3_1_2 (Or.inl ⟨by kernel_rfl, ?hyr3_1_2⟩) (by assumption) ?restr3_1_2
      case hqr3_1_2 => exact fun _ _ _ h => h
      case hyr3_1_2 => (intro w hSw; (try dsimp only at hSw); go_simp; try with_reducible rfl)
      try simp only [Act.put, List.getElem_toArray, List.getElem_cons_succ, List.getElem_cons_zero, List.setIfInBounds_toArray, List.set_cons_zero, List.set_cons_succ]
      refine wpAnyH_take (i := 3) (oi := _) (v := ?vr3_1_3) rfl (by kernel_rfl) (by kernel_rfl) (by kernel_rfl) ?hqr3_1_3 (Or.inl ⟨by kernel_rfl, ?hyr3_1_3⟩) (by assumption) ?restr3_1_3
      case hqr3_1_3 => exact fun _ _ _ h => h
      case hyr3_1_3 => (intro w hSw; (try dsimp only at hSw); go_simp; try with_reducible rfl)
      try simp only [Act.put, List.getElem_toArray, List.getElem_cons_succ, List.getElem_cons_zero, List.setIfInBounds_toArray, List.set_cons_zero, List.set_cons_succ]
      refine wpAnyH_take (i := 4) (oi := _) (v := ?vr3_1_4) rfl (by kernel_rfl) (by kernel_rfl) (by kernel_rfl) ?hqr3_1_4 (Or.inl ⟨by kernel_rfl, ?hyr3_1_4⟩) (by assumption) ?restr3_1_4
      case hqr3_1_4 => exact fun _ _ _ h => h
      case hyr3_1_4 => (intro w hSw; (try dsimp only at hSw); go_simp; try with_reducible rfl)
      try simp only [Act.put, List.getElem_toArray, List.getElem_cons_succ, List.getElem_cons_zero, List.setIfInBounds_toArray, List.set_cons_zero, List.set_cons_succ]
      refine wpAnyH_take (i := 5) (oi := _) (v := ?vr3_1_5) rfl (by kernel_rfl) (by kernel_rfl) (by kernel_rfl) ?hqr3_1_5 (Or.inl ⟨by kernel_rfl, ?hyr3_1_5⟩) (by assumption) ?restr3_1_5
      case hqr3_1_5 => exact fun _ _ _ h => h
      case hyr3_1_5 => (intro w hSw; (try dsimp only at hSw); go_simp; try with_reducible rfl)
      try simp only [Act.put, List.getElem_toArray, List.getElem_cons_succ, List.getElem_cons_zero, List.setIfInBounds_toArray, List.set_cons_zero, List.set_cons_succ]
      refine wpAnyH_take (i := 6) (oi := _) (v := ?vr3_1_6) rfl (by kernel_rfl) (by kernel_rfl) (by kernel_rfl) ?hqr3_1_6 (Or.inl ⟨by kernel_rfl, ?hyr3_1_6⟩) (by assumption) ?restr3_1_6
      case hqr3_1_6 => exact fun _ _ _ h => h
      case hyr3_1_6 => (intro w hSw; (try dsimp only at hSw); go_simp; try with_reducible rfl)
      try simp only [Act.put, List.getElem_toArray, List.getElem_cons_succ, List.getElem_cons_zero, List.setIfInBounds_toArray, List.set_cons_zero, List.set_cons_succ]
      refine wpAnyH_take (i := 7) (oi := _) (v := ?vr3_1_7) rfl (by kernel_rfl) (by kernel_rfl) (by kernel_rfl) ?hqr3_1_7 (Or.inl ⟨by kernel_rfl, ?hyr3_1_7⟩) (by assumption) ?restr3_1_7
      case hqr3_1_7 => exact fun _ _ _ h => h
      case hyr3_1_7 => (intro w hSw; (try dsimp only at hSw); go_simp; try with_reducible rfl)
      try simp only [Act.put, List.getElem_toArray, List.getElem_cons_succ, List.getElem_cons_zero, List.setIfInBounds_toArray, List.set_cons_zero, List.set_cons_succ]
      refine wpAnyH_take (i := 8) (oi := _) (v := ?vr3_1_8) rfl (by kernel_rfl) (by kernel_rfl) (by kernel_rfl) ?hqr3_1_8 (Or.inl ⟨by kernel_rfl, ?hyr3_1_8⟩) (by assumption) ?restr3_1_8
      case hqr3_1_8 => exact fun _ _ _ h => h
      case hyr3_1_8 => (intro w hSw; (try dsimp only at hSw); go_simp; try with_reducible rfl)
      try simp only [Act.put, List.getElem_toArray, List.getElem_cons_succ, List.getElem_cons_zero, List.setIfInBounds_toArray, List.set_cons_zero, List.set_cons_succ]
      refine wpAnyH_take (i := 9) (oi := _) (v := undef) rfl (by kernel_rfl) (by kernel_rfl) (by kernel_rfl) (fun _ _ _ h => h) (Or.inr ⟨by kernel_rfl, rfl⟩) (by assumption) ?restr3_1_9
      try simp only [Act.put, List.getElem_toArray, List.getElem_cons_succ, List.getElem_cons_zero, List.setIfInBounds_toArray, List.set_cons_zero, List.set_cons_succ]
      refine wpAnyH_take (i := 10) (oi := _) (v := undef) rfl (by kernel_rfl) (by kernel_rfl) (by kernel_rfl) (fun _ _ _ h => h) (Or.inr ⟨by kernel_rfl, rfl⟩) (by assumption) ?restr3_1_10
      try simp only [Act.put, List.getElem_toArray, List.getElem_cons_succ, List.getElem_cons_zero, List.setIfInBounds_toArray, List.set_cons_zero, List.set_cons_succ]
      refine wpAnyH_take (i := 11) (oi := _) (v := undef) rfl (by kernel_rfl) (by kernel_rfl) (by kernel_rfl) (fun _ _ _ h => h) (Or.inr ⟨by kernel_rfl, rfl⟩) (by assumption) ?restr3_1_11
      try simp only [Act.put, List.getElem_toArray, List.getElem_cons_succ, List.getElem_cons_zero, List.setIfInBounds_toArray, List.set_cons_zero, List.set_cons_succ]
      refine wpAnyH_take (i := 12) (oi := _) (v := undef) rfl (by kernel_rfl) (by kernel_rfl) (by kernel_rfl) (fun _ _ _ h => h) (Or.inr ⟨by kernel_rfl, rfl⟩) (by assumption) ?restr3_1_12
      try simp only [Act.put, List.getElem_toArray, List.getElem_cons_succ, List.getElem_cons_zero, List.setIfInBounds_toArray, List.set_cons_zero, List.set_cons_succ]
      refine wpAnyH_take (i := 13) (oi := _) (v := undef) rfl (by kernel_rfl) (by kernel_rfl) (by kernel_rfl) (fun _ _ _ h => h) (Or.inr ⟨by kernel_rfl, rfl⟩) (by assumption) ?restr3_1_13
      try simp only [Act.put, List.getElem_toArray, List.getElem_cons_succ, List.getElem_cons_zero, List.setIfInBounds_toArray, List.set_cons_zero, List.set_cons_succ]
      refine wpAnyH_take (i := 14) (oi := _) (v := ?vr3_1_14) rfl (by kernel_rfl) (by kernel_rfl) (by kernel_rfl) ?hqr3_1_14 (Or.inl ⟨by kernel_rfl, ?hyr3_1_14⟩) (by assumption) ?restr3_1_14
      case hqr3_1_14 => exact fun _ _ _ h => h
      case hyr3_1_14 => (intro w hSw; (try dsimp only at hSw); go_simp; try with_reducible rfl)
      try simp only [Act.put, List.getElem_toArray, List.getElem_cons_succ, List.getElem_cons_zero, List.setIfInBounds_toArray, List.set_cons_zero, List.set_cons_succ]
      refine wpAnyH_take (i := 15) (oi := _) (v := ?vr3_1_15) rfl (by kernel_rfl) (by kernel_rfl) (by kernel_rfl) ?hqr3_1_15 (Or.inl ⟨by kernel_rfl, ?hyr3_1_15⟩) (by assumption) ?restr3_1_15
      case hqr3_1_15 => exact fun _ _ _ h => h
      case hyr3_1_15 => (intro w hSw; (try dsimp only at hSw); go_simp; try with_reducible rfl)
      try simp only [Act.put, List.getElem_toArray, List.getElem_cons_succ, List.getElem_cons_zero, List.setIfInBounds_toArray, List.set_cons_zero, List.set_cons_succ]
      refine wpAnyH_take (i := 16) (oi := _) (v := undef) rfl (by kernel_rfl) (by kernel_rfl) (by kernel_rfl) (fun _ _ _ h => h) (Or.inr ⟨by kernel_rfl, rfl⟩) (by assumption) ?restr3_1_16
      try simp only [Act.put, List.getElem_toArray, List.getElem_cons_succ, List.getElem_cons_zero, List.setIfInBounds_toArray, List.set_cons_zero, List.set_cons_succ]
      refine wpAnyH_take (i := 17) (oi := _) (v := undef) rfl (by kernel_rfl) (by kernel_rfl) (by kernel_rfl) (fun _ _ _ h => h) (Or.inr ⟨by kernel_rfl, rfl⟩) (by assumption) ?restr3_1_17
      try simp only [Act.put, List.getElem_toArray, List.getElem_cons_succ, List.getElem_cons_zero, List.setIfInBounds_toArray, List.set_cons_zero, List.set_cons_succ]
      refine wpAnyH_take (i := 18) (oi := _) (v := undef) rfl (by kernel_rfl) (by kernel_rfl) (by kernel_rfl) (fun _ _ _ h => h) (Or.inr ⟨by kernel_rfl, rfl⟩) (by assumption) ?restr3_1_18
      try simp only [Act.put, List.getElem_toArray, List.getElem_cons_succ, List.getElem_cons_zero, List.setIfInBounds_toArray, List.set_cons_zero, List.set_cons_succ]
      refine wpAnyH_take (i := 19) (oi := _) (v := undef) rfl (by kernel_rfl) (by kernel_rfl) (by kernel_rfl) (fun _ _ _ h => h) (Or.inr ⟨by kernel_rfl, rfl⟩) (by assumption) ?restr3_1_19
      try simp only [Act.put, List.getElem_toArray, List.getElem_cons_succ, List.getElem_cons_zero, List.setIfInBounds_toArray, List.set_cons_zero, List.set_cons_succ]
      refine wpAnyH_take (i := 20) (oi := _) (v := ?vr3_1_20) rfl (by kernel_rfl) (by kernel_rfl) (by kernel_rfl) ?hqr3_1_20 (Or.inl ⟨by kernel_rfl, ?hyr3_1_20⟩) (by assumption) ?restr3_1_20
      case hqr3_1_20 => exact fun _ _ _ h => h
      case hyr3_1_20 => (intro w hSw; (try dsimp only at hSw); go_simp; try with_reducible rfl)
      try simp only [Act.put, List.getElem_toArray, List.getElem_cons_succ, List.getElem_cons_zero, List.setIfInBounds_toArray, List.set_cons_zero, List.set_cons_succ]
      refine wpAnyH_take (i := 21) (oi := _) (v := ?vr3_1_21) rfl (by kernel_rfl) (by kernel_rfl) (by kernel_rfl) ?hqr3_1_21 (Or.inl ⟨by kernel_rfl, ?hyr3_1_21⟩) (by assumption) ?restr3_1_21
      case hqr3_1_21 => exact fun _ _ _ h => h
      case hyr3_1_21 => (intro w hSw; (try dsimp only at hSw); go_simp; try with_reducible rfl)
      try simp only [Act.put, List.getElem_toArray, List.getElem_cons_succ, List.getElem_cons_zero, List.setIfInBounds_toArray, List.set_cons_zero, List.set_cons_succ]
      refine wpAnyH_done (by kernel_rfl) ?_ _
      refine NoPanic.normal ?_
      go_wp2
      go_ret
      exact ⟨rfl, HB2.out.then_ hHr3_0⟩
  · have h2I : decide ((1 : Int) ≤ s.size) = false := by simp; omega
    have h3I : decide (1 ≤ s.size) = false := by rw [decide_eq_false_iff_not]; exact h1
    have hR2 : R = false := by rw [hR]; unfold namedB; rw [dif_neg (by omega)]
    subst hR2
    clear hR
    refine wp_region_noPanic ?_
    refine wp_region_held_drew (S := (fun V : World => Bel w2 V)) (by kernel_rfl) ?_ (fun hHr4_0 => ?_)
    · (try dsimp only); (first | assumption | exact (Bel.refl w2).drew)
    refine wpAnyH_take (i := 0) (oi := _) (v := ?vr4_1_0) rfl (by kernel_rfl) (by kernel_rfl) (by kernel_rfl) ?hqr4_1_0 (Or.inl ⟨by kernel_rfl, ?hyr4_1_0⟩) (by assumption) ?restr4_1_0
    case hqr4_1_0 => exact fun _ _ _ h => h
    case hyr4_1_0 => (intro w hSw; (try dsimp only at hSw); go_simp; try with_reducible rfl)
    try simp only [Act.put, List.getElem_toArray, List.getElem_cons_succ, List.getElem_cons_zero, List.setIfInBounds_toArray, List.set_cons_zero, List.set_cons_succ]
    refine wpAnyH_take (i := 1) (oi := _) (v := ?vr4_1_1) rfl (by kernel_rfl) (by kernel_rfl) (by kernel_rfl) ?hqr4_1_1 (Or.inl ⟨by kernel_rfl, ?hyr4_1_1⟩) (by assumption) ?restr4_1_1
    case hqr4_1_1 => exact fun _ _ _ h => h
    case hyr4_1_1 => (intro w hSw; (try dsimp only at hSw); go_simp; try with_reducible rfl)
    try simp only [Act.put, List.getElem_toArray, List.getElem_cons_succ, List.getElem_cons_zero, List.setIfInBounds_toArray, List.set_cons_zero, List.set_cons_succ]
    refine wpAnyH_take (i := 2) (oi := _) (v := ?vr4_1_2) rfl (by kernel_rfl) (by kernel_rfl) (by kernel_rfl) ?hqr4_1_2 (Or.inl ⟨by kernel_rfl, ?hyr4_1_2⟩) (by assumption) ?restr4_1_2
    case hqr4_1_2 => exact fun _ _ _ h => h
    case hyr4_1_2 => (intro w hSw; (try dsimp only at hSw); go_simp; try with_reducible rfl)
    try simp only [Act.put, List.getElem_toArray, List.getElem_cons_succ, List.getElem_cons_zero, List.setIfInBounds_toArray, List.set_cons_zero, List.set_cons_succ]
    refine wpAnyH_take (i := 3) (oi := _) (v := ?vr4_1_3) rfl (by kernel_rfl) (by kernel_rfl) (by kernel_rfl) ?hqr4_1_3 (Or.inl ⟨by kernel_rfl, ?hyr4_1_3⟩) (by assumption) ?restr4_1_3
    case hqr4_1_3 => exact fun _ _ _ h => h
    case hyr4_1_3 => (intro w hSw; (try dsimp only at hSw); go_simp; try with_reducible rfl)
    try simp only [Act.put, List.getElem_toArray, List.getElem_cons_succ, List.getElem_cons_zero, List.setIfInBounds_toArray, List.set_cons_zero, List.set_cons_succ]
    refine wpAnyH_take (i := 4) (oi := _) (v := undef) rfl (by kernel_rfl) (by kernel_rfl) (by kernel_rfl) (fun _ _ _ h => h) (Or.inr ⟨by kernel_rfl, rfl⟩) (by assumption) ?restr4_1_4
    try simp only [Act.put, List.getElem_toArray, List.getElem_cons_succ, List.getElem_cons_zero, List.setIfInBounds_toArray, List.set_cons_zero, List.set_cons_succ]
    refine wpAnyH_take (i := 5) (oi := _) (v := undef) rfl (by kernel_rfl) (by kernel_rfl) (by kernel_rfl) (fun _ _ _ h => h) (Or.inr ⟨by kernel_rfl, rfl⟩) (by assumption) ?restr4_1_5
    try simp only [Act.put, List.getElem_toArray, List.getElem_cons_succ, List.getElem_cons_zero, List.setIfInBounds_toArray, List.set_cons_zero, List.set_cons_succ]
    refine wpAnyH_take (i := 6) (oi := _) (v := undef) rfl (by kernel_rfl) (by kernel_rfl) (by kernel_rfl) (fun _ _ _ h => h) (Or.inr ⟨by kernel_rfl, rfl⟩) (by assumption) ?restr4_1_6
    try simp only [Act.put, List.getElem_toArray, List.getElem_cons_succ, List.getElem_cons_zero, List.setIfInBounds_toArray, List.set_cons_zero, List.set_cons_succ]
    refine wpAnyH_take (i := 7) (oi := _) (v := ?vr4_1_7) rfl (by kernel_rfl) (by kernel_rfl) (by kernel_rfl) ?hqr4_1_7 (Or.inl ⟨by kernel_rfl, ?hyr4_1_7⟩) (by assumption) ?restr4_1_7
    case hqr4_1_7 => exact fun _ _ _ h => h
    case hyr4_1_7 => (intro w hSw; (try dsimp only at hSw); go_simp; try with_reducible rfl)
    try simp only [Act.put, List.getElem_toArray, List.getElem_cons_succ, List.getElem_cons_zero, List.setIfInBounds_toArray, List.set_cons_zero, List.set_cons_succ]
    refine wpAnyH_take (i := 8) (oi := _) (v := ?vr4_1_8) rfl (by kernel_rfl) (by kernel_rfl) (by kernel_rfl) ?hqr4_1_8 (Or.inl ⟨by kernel_rfl, ?hyr4_1_8⟩) (by assumption) ?restr4_1_8
    case hqr4_1_8 => exact fun _ _ _ h => h
    case hyr4_1_8 => (intro w hSw; (try dsimp only at hSw); go_simp; try with_reducible rfl)
    try simp only [Act.put, List.getElem_toArray, List.getElem_cons_succ, List.getElem_cons_zero, List.setIfInBounds_toArray, List.set_cons_zero, List.set_cons_succ]
    refine wpAnyH_take (i := 9) (oi := _) (v := undef) rfl (by kernel_rfl) (by kernel_rfl) (by kernel_rfl) (fun _ _ _ h => h) (Or.inr ⟨by kernel_rfl, rfl⟩) (by assumption) ?restr4_1_9
    try simp only [Act.put, List.getElem_toArray, List.getElem_cons_succ, List.getElem_cons_zero, List.setIfInBounds_toArray, List.set_cons_zero, List.set_cons_succ]
    refine wpAnyH_take (i := 10) (oi := _) (v := undef) rfl (by kernel_rfl) (by kernel_rfl) (by kernel_rfl) (fun _ _ _ h => h) (Or.inr ⟨by kernel_rfl, rfl⟩) (by assumption) ?restr4_1_10
    try simp only [Act.put, List.getElem_toArray, List.getElem_cons_succ, List.getElem_cons_zero, List.setIfInBounds_toArray, List.set_cons_zero, List.set_cons_succ]
    refine wpAnyH_take (i := 11) (oi := _) (v := undef) rfl (by kernel_rfl) (by kernel_rfl) (by kernel_rfl) (fun _ _ _ h => h) (Or.inr ⟨by kernel_rfl, rfl⟩) (by assumption) ?restr4_1_11
    try simp only [Act.put, List.getElem_toArray, List.getElem_cons_succ, List.getElem_cons_zero, List.setIfInBounds_toArray, List.set_cons_zero, List.set_cons_succ]
    refine wpAnyH_take (i := 12) (oi := _) (v := undef) rfl (by kernel_rfl) (by kernel_rfl) (by kernel_rfl) (fun _ _ _ h => h) (Or.inr ⟨by kernel_rfl, rfl⟩) (by assumption) ?restr4_1_12
    try simp only [Act.put, List.getElem_toArray, List.getElem_cons_succ, List.getElem_cons_zero, List.setIfInBounds_toArray, List.set_cons_zero, List.set_cons_succ]
    refine wpAnyH_take (i := 13) (oi := _) (v := undef) rfl (by kernel_rfl) (by kernel_rfl) (by kernel_rfl) (fun _ _ _ h => h) (Or.inr ⟨by kernel_rfl, rfl⟩) (by assumption) ?restr4_1_13
    try simp only [Act.put, List.getElem_toArray, List.getElem_cons_succ, List.getElem_cons_zero, List.setIfInBounds_toArray, List.set_cons_zero, List.set_cons_succ]
    refine wpAnyH_take (i := 14) (oi := _) (v := ?vr4_1_14) rfl (by kernel_rfl) (by kernel_rfl) (by kernel_rfl) ?hqr4_1_14 (Or.inl ⟨by kernel_rfl, ?hyr4_1_14⟩) (by assumption) ?restr4_1_14
    case hqr4_1_14 => exact fun _ _ _ h => h
    case hyr4_1_14 => (intro w hSw; (try dsimp only at hSw); go_simp; try with_reducible rfl)
    try simp only [Act.put, List.getElem_toArray, List.getElem_cons_succ, List.getElem_cons_zero, List.setIfInBounds_toArray, List.set_cons_zero, List.set_cons_succ]
    refine wpAnyH_take (i := 15) (oi := _) (v := ?vr4_1_15) rfl (by kernel_rfl) (by kernel_rfl) (by kernel_rfl) ?hqr4_1_15 (Or.inl ⟨by kernel_rfl, ?hyr4_1_15⟩) (by assumption) ?restr4_1_15
    case hqr4_1_15 => exact fun _ _ _ h => h
    case hyr4_1_15 => (intro w hSw; (try dsimp only at hSw); go_simp; try with_reducible rfl)
    try simp only [Act.put, List.getElem_toArray, List.getElem_cons_succ, List.getElem_cons_zero, List.setIfInBounds_toArray, List.set_cons_zero, List.set_cons_succ]
    refine wpAnyH_take (i := 16) (oi := _) (v := undef) rfl (by kernel_rfl) (by kernel_rfl) (by kernel_rfl) (fun _ _ _ h => h) (Or.inr ⟨by kernel_rfl, rfl⟩) (by assumption) ?restr4_1_16
    try simp only [Act.put, List.getElem_toArray, List.getElem_cons_succ, List.getElem_cons_zero, List.setIfInBounds_toArray, List.set_cons_zero, List.set_cons_succ]
    refine wpAnyH_take (i := 17) (oi := _) (v := undef) rfl (by kernel_rfl) (by kernel_rfl) (by kernel_rfl) (fun _ _ _ h => h) (Or.inr ⟨by kernel_rfl, rfl⟩) (by assumption) ?restr4_1_17
    try simp only [Act.put, List.getElem_toArray, List.getElem_cons_succ, List.getElem_cons_zero, List.setIfInBounds_toArray, List.set_cons_zero, List.set_cons_succ]
    refine wpAnyH_take (i := 18) (oi := _) (v := undef) rfl (by kernel_rfl) (by kernel_rfl) (by kernel_rfl) (fun _ _ _ h => h) (Or.inr ⟨by kernel_rfl, rfl⟩) (by assumption) ?restr4_1_18
    try simp only [Act.put, List.getElem_toArray, List.getElem_cons_succ, List.getElem_cons_zero, List.setIfInBounds_toArray, List.set_cons_zero, List.set_cons_succ]
    refine wpAnyH_take (i := 19) (oi := _) (v := undef) rfl (by kernel_rfl) (by kernel_rfl) (by kernel_rfl) (fun _ _ _ h => h) (Or.inr ⟨by kernel_rfl, rfl⟩) (by assumption) ?restr4_1_19
    try simp only [Act.put, List.getElem_toArray, List.getElem_cons_succ, List.getElem_cons_zero, List.setIfInBounds_toArray, List.set_cons_zero, List.set_cons_succ]
    refine wpAnyH_take (i := 20) (oi := _) (v := ?vr4_1_20) rfl (by kernel_rfl) (by kernel_rfl) (by kernel_rfl) ?hqr4_1_20 (Or.inl ⟨by kernel_rfl, ?hyr4_1_20⟩) (by assumption) ?restr4_1_20
    case hqr4_1_20 => exact fun _ _ _ h => h
    case hyr4_1_20 => (intro w hSw; (try dsimp only at hSw); go_simp; try with_reducible rfl)
    try simp only [Act.put, List.getElem_toArray, List.getElem_cons_succ, List.getElem_cons_zero, List.setIfInBounds_toArray, List.set_cons_zero, List.set_cons_succ]
    refine wpAnyH_take (i := 21) (oi := _) (v := ?vr4_1_21) rfl (by kernel_rfl) (by kernel_rfl) (by kernel_rfl) ?hqr4_1_21 (Or.inl ⟨by kernel_rfl, ?hyr4_1_21⟩) (by assumption) ?restr4_1_21
    case hqr4_1_21 => exact fun _ _ _ h => h
    case hyr4_1_21 => (intro w hSw; (try dsimp only at hSw); go_simp; try with_reducible rfl)
    try simp only [Act.put, List.getElem_toArray, List.getElem_cons_succ, List.getElem_cons_zero, List.setIfInBounds_toArray, List.set_cons_zero, List.set_cons_succ]
    refine wpAnyH_done (by kernel_rfl) ?_ _
    refine NoPanic.normal ?_
    go_wp2
    go_ret
    exact ⟨rfl, HB2.out.then_ hHr4_0⟩
end Go.Proofs.YtkklmflclmgjeaaGreatDoor

/-
  Schema: what each type asks.
-/
set_option linter.unusedVariables false
set_option linter.unusedSimpArgs false
set_option linter.unusedVariables false
set_option linter.unusedSimpArgs false
namespace Go.Proofs.YtkklmflclmgjeaaGreatDoor
open Go.RowKit Go.Shelf Go.Lib
attribute [local go_sem] Oper.semAt_some

/-- A column; a value. -/
structure Col where
  name : ByteArray
  t : Int
  z : Int
  null : Bool
deriving DecidableEq
structure Val where
  k : Int
  n : Int
  u : Int
  b : ByteArray
deriving DecidableEq
def Col.v (c : Col) : Value := .agg #[.string c.name, .int .i64 c.t, .int .i64 c.z, .bool c.null]
def Val.v (x : Val) : Value := .agg #[.int .i64 x.k, .int .i64 x.n, .int .u64 x.u, .string x.b]
def skV (a b : Nat) (k : Int) : Value := .agg #[.func (.func a) #[] #[], .int .i64 k, .func (.func b) #[] #[]]
def skE (a b : Nat) (k : Int) (j : Nat) : MapEntry := { key := .int .i64 k, val := skV a b k, born := j }
def skMap : Array MapEntry := #[skE 142 143 1 0, skE 142 144 2 1, skE 145 146 3 2, skE 147 148 4 3]
theorem sckinds_at (w : World) : Calls Tryz.prog 98 #[] w fun e w' => e = .returned (.map (some w.heap.size)) ∧ w.alloc (.map skMap 4) = w' := by
  have hmm := @run_makeMap Tryz.prog
  have u1 := run_mapUpdate_fresh (P := Tryz.prog) (T := 157) (K := 42) (E := 156) (k := .i64) Tryz.underlying157 Tryz.underlying42 (es := #[]) (a := 1) rfl 0 (skV 142 143 1) w
  have u2 := run_mapUpdate_fresh (P := Tryz.prog) (T := 157) (K := 42) (E := 156) (k := .i64) Tryz.underlying157 Tryz.underlying42 (es := #[skE 142 143 1 0]) (a := 2) rfl 1 (skV 142 144 2) w
  have u3 := run_mapUpdate_fresh (P := Tryz.prog) (T := 157) (K := 42) (E := 156) (k := .i64) Tryz.underlying157 Tryz.underlying42 (es := #[skE 142 143 1 0, skE 142 144 2 1]) (a := 3) rfl 2 (skV 145 146 3) w
  have u4 := run_mapUpdate_fresh (P := Tryz.prog) (T := 157) (K := 42) (E := 156) (k := .i64) Tryz.underlying157 Tryz.underlying42 (es := #[skE 142 143 1 0, skE 142 144 2 1, skE 145 146 3 2]) (a := 4) rfl 3 (skV 147 148 4) w
  simp only [List.push_toArray, List.nil_append, List.cons_append, Nat.reduceAdd] at u1 u2 u3 u4
  simp only [skE, skV] at u1 u2 u3 u4
  go_enter Tryz.func98, Tryz.ntmps98
  go_wp2
  go_ret
  exact ⟨rfl, rfl⟩
theorem sckinds_any (w : World) : Calls Tryz.prog 98 #[] w fun e w' => ∃ b, e = .returned (.map (some b)) ∧ w'.heap[b]? = some (.map skMap 4) ∧ Bel w w' :=
  (sckinds_at w).mono fun e w' ⟨he, hw⟩ => ⟨_, he, by rw [← hw]; exact World.alloc_heap_new _ _, by rw [← hw]; exact (Bel.refl w).alloc _⟩
def sizeB (t z : Int) : Bool := if t = 1 ∨ t = 2 then decide (z = 1 ∨ z = 2 ∨ z = 4 ∨ z = 8) else if t = 3 then decide (z = 0) else decide (1 ≤ z ∧ z ≤ 200)
def rightB (c : Col) : Bool := decide (1 ≤ c.t ∧ c.t ≤ 4) && namedB c.name && sizeB c.t c.z
/-- A part of the code is walked up to a frame that hangs on two blocks. -/
theorem wp_cut2 {P : Program} {c : Code} {Q : Exit → Act → World → Prop} {a : Act} {w : World} (F : Nat → Nat → Act) (R : Nat → Nat → World → Prop)
    (h : c.wp P (fun e a' V => ∃ x y, e = .normal ∧ a' = F x y ∧ R x y V) a w) (k : ∀ x y V, R x y V → Q .normal (F x y) V) : c.wp P Q a w :=
  Code.wp_mono (fun e a' V h => by obtain ⟨x, y, rfl, rfl, hr⟩ := h; exact k _ _ _ hr) h
def skOf : Int → Value
  | 1 => skV 142 143 1
  | 2 => skV 142 144 2
  | 3 => skV 145 146 3
  | _ => skV 147 148 4
theorem skLook {t : Int} (h1 : 1 ≤ t) (h4 : t ≤ 4) {b : Nat} {V : World} (hb : V.heap[b]? = some (.map skMap 4)) :
    (Instr.lookup 157 (.map (some b)) (.int .i64 t) true).run Tryz.prog V = .ok (.tuple #[skOf t, .bool true]) V := by
  have hc : t = 1 ∨ t = 2 ∨ t = 3 ∨ t = 4 := by omega
  rcases hc with rfl | rfl | rfl | rfl
  · exact run_lookup_int_ok (k := .i64) Tryz.underlying157 Tryz.underlying42 (i := 0) rfl hb
  · exact run_lookup_int_ok (k := .i64) Tryz.underlying157 Tryz.underlying42 (i := 1) rfl hb
  · exact run_lookup_int_ok (k := .i64) Tryz.underlying157 Tryz.underlying42 (i := 2) rfl hb
  · exact run_lookup_int_ok (k := .i64) Tryz.underlying157 Tryz.underlying42 (i := 3) rfl hb
theorem skLookNo {t : Int} (h : ¬ (1 ≤ t ∧ t ≤ 4)) {b : Nat} {V : World} (hb : V.heap[b]? = some (.map skMap 4)) :
    (Instr.lookup 157 (.map (some b)) (.int .i64 t) true).run Tryz.prog V = .ok (.tuple #[.agg #[.nilFunc, .int .i64 0, .nilFunc], .bool false]) V := by
  refine run_lookup_int_none (k := .i64) Tryz.underlying157 Tryz.underlying42 ?_ ?_ hb
  · have h1 : (t == 1) = false := by rw [beq_eq_false_iff_ne]; omega
    have h2 : (t == 2) = false := by rw [beq_eq_false_iff_ne]; omega
    have h3 : (t == 3) = false := by rw [beq_eq_false_iff_ne]; omega
    have h4 : (t == 4) = false := by rw [beq_eq_false_iff_ne]; omega
    simp [skMap, skE, Instr.findNow, Instr.sameNow, h1, h2, h3, h4]
  · kernel_rfl
theorem scwhole_any (z : Int) (w : World) : Calls Tryz.prog 142 #[.int .i64 z] w fun e w' => e = .returned (.bool (decide (z = 1 ∨ z = 2 ∨ z = 4 ∨ z = 8))) ∧ Bel w w' := by
  by_cases h : z = 1 ∨ z = 2 ∨ z = 4 ∨ z = 8
  · rw [decide_eq_true h]
    rcases h with rfl | rfl | rfl | rfl
    all_goals
      go_enter Tryz.func142, Tryz.ntmps142
      go_wp2
      go_ret
      exact ⟨rfl, by (repeat (first | exact Below.refl _ _ | assumption | exact Bel.refl _ | refine Bel.alloc ?_ _ | refine Bel.drew ?_ | refine Bel.drewN ?_ _ | refine Bel.then_ ?_ (by assumption) | refine Bel.setCell ?_ (by first | (simp; done) | (simp; omega)) _))⟩
  · rw [decide_eq_false h]
    have h1 : (z == 1) = false := by rw [beq_eq_false_iff_ne]; omega
    have h2 : (z == 2) = false := by rw [beq_eq_false_iff_ne]; omega
    have h3 : (z == 4) = false := by rw [beq_eq_false_iff_ne]; omega
    have h4 : (z == 8) = false := by rw [beq_eq_false_iff_ne]; omega
    clear h
    go_enter Tryz.func142, Tryz.ntmps142
    go_wp2
    go_ret
    exact ⟨rfl, by (repeat (first | exact Below.refl _ _ | assumption | exact Bel.refl _ | refine Bel.alloc ?_ _ | refine Bel.drew ?_ | refine Bel.drewN ?_ _ | refine Bel.then_ ?_ (by assumption) | refine Bel.setCell ?_ (by first | (simp; done) | (simp; omega)) _))⟩
theorem sckc_any (z : Int) (w : World) : Calls Tryz.prog 145 #[.int .i64 z] w fun e w' => e = .returned (.bool (decide (z = 0))) ∧ Bel w w' := by
  by_cases h : z = 0
  · subst h
    go_enter Tryz.func145, Tryz.ntmps145
    go_wp2
    go_ret
    exact ⟨rfl, by (repeat (first | exact Below.refl _ _ | assumption | exact Bel.refl _ | refine Bel.alloc ?_ _ | refine Bel.drew ?_ | refine Bel.drewN ?_ _ | refine Bel.then_ ?_ (by assumption) | refine Bel.setCell ?_ (by first | (simp; done) | (simp; omega)) _))⟩
  · rw [decide_eq_false h]
    have h1 : (z == 0) = false := by rw [beq_eq_false_iff_ne]; omega
    go_enter Tryz.func145, Tryz.ntmps145
    go_wp2
    go_ret
    exact ⟨by first | rfl | simp [h1], by (repeat (first | exact Below.refl _ _ | assumption | exact Bel.refl _ | refine Bel.alloc ?_ _ | refine Bel.drew ?_ | refine Bel.drewN ?_ _ | refine Bel.then_ ?_ (by assumption) | refine Bel.setCell ?_ (by first | (simp; done) | (simp; omega)) _))⟩
theorem scke_any (z : Int) (w : World) : Calls Tryz.prog 147 #[.int .i64 z] w fun e w' => e = .returned (.bool (decide (1 ≤ z ∧ z ≤ 200))) ∧ Bel w w' := by
  by_cases h : 1 ≤ z
  · by_cases h2 : z ≤ 200
    · rw [decide_eq_true ⟨h, h2⟩]
      go_enter Tryz.func147, Tryz.ntmps147
      go_wp2
      go_ret
      exact ⟨by first | rfl | simp [h, h2], by (repeat (first | exact Below.refl _ _ | assumption | exact Bel.refl _ | refine Bel.alloc ?_ _ | refine Bel.drew ?_ | refine Bel.drewN ?_ _ | refine Bel.then_ ?_ (by assumption) | refine Bel.setCell ?_ (by first | (simp; done) | (simp; omega)) _))⟩
    · rw [decide_eq_false (by omega)]
      have h3 : decide (z ≤ 200) = false := by simp; omega
      go_enter Tryz.func147, Tryz.ntmps147
      go_wp2
      go_ret
      exact ⟨by first | rfl | simp [h, h2], by (repeat (first | exact Below.refl _ _ | assumption | exact Bel.refl _ | refine Bel.alloc ?_ _ | refine Bel.drew ?_ | refine Bel.drewN ?_ _ | refine Bel.then_ ?_ (by assumption) | refine Bel.setCell ?_ (by first | (simp; done) | (simp; omega)) _))⟩
  · rw [decide_eq_false (by omega)]
    have h3 : decide (1 ≤ z) = false := by simp; omega
    go_enter Tryz.func147, Tryz.ntmps147
    go_wp2
    go_ret
    exact ⟨by first | rfl | simp [h], by (repeat (first | exact Below.refl _ _ | assumption | exact Bel.refl _ | refine Bel.alloc ?_ _ | refine Bel.drew ?_ | refine Bel.drewN ?_ _ | refine Bel.then_ ?_ (by assumption) | refine Bel.setCell ?_ (by first | (simp; done) | (simp; omega)) _))⟩
/-- What a type's row of what it asks holds. -/
theorem skOf_is {t : Int} (h1 : 1 ≤ t) (h4 : t ≤ 4) : ∃ f g, skOf t = skV f g t ∧ (∀ args w, (callFunc f args).run Tryz.prog w = .ok (.enter f args) w) ∧
    ∀ z w, Calls Tryz.prog f #[.int .i64 z] w fun e w' => e = .returned (.bool (sizeB t z)) ∧ Bel w w' := by
  have hc : t = 1 ∨ t = 2 ∨ t = 3 ∨ t = 4 := by omega
  rcases hc with rfl | rfl | rfl | rfl
  · exact ⟨_, _, rfl, enters_of Tryz.func142 (by kernel_rfl) rfl, fun z w => by have := scwhole_any z w; exact this⟩
  · exact ⟨_, _, rfl, enters_of Tryz.func142 (by kernel_rfl) rfl, fun z w => by have := scwhole_any z w; exact this⟩
  · exact ⟨_, _, rfl, enters_of Tryz.func145 (by kernel_rfl) rfl, fun z w => by have := sckc_any z w; exact this⟩
  · exact ⟨_, _, rfl, enters_of Tryz.func147 (by kernel_rfl) rfl, fun z w => by have := scke_any z w; exact this⟩
set_option maxRecDepth 100000 in
set_option maxHeartbeats 4000000 in
theorem scright_any (c : Col) (w : World) : Calls Tryz.prog 96 #[c.v] w fun e w' => e = .returned (.bool (rightB c)) ∧ Bel w w' := by
  obtain ⟨name, t, z, null⟩ := c
  obtain ⟨R, hR⟩ : ∃ R, R = rightB ⟨name, t, z, null⟩ := ⟨_, rfl⟩
  rw [← hR]
  have HR := Lib.hid hR
  clear hR
  unfold Col.v
  dsimp only
  by_cases ht : 1 ≤ t ∧ t ≤ 4
  · obtain ⟨f, g, hk, egf, hsz⟩ := skOf_is ht.1 ht.2
    have HSZ := Lib.hid (fun V => hsz z V)
    clear hsz
    have HLO := Lib.hid (fun (b : Nat) (V : World) (hb : V.heap[b]? = some (.map skMap 4)) => skLook ht.1 ht.2 hb)
    rw [hk] at HLO
    unfold skV at HLO
    have HK := Lib.hid hk
    have HT := Lib.hid ht
    clear hk ht
    go_enter Tryz.func96, Tryz.ntmps96
    go_wp2
    obtain ⟨w1, hw1⟩ : ∃ w1, w1 = w.alloc (.cells #[.string name, .int .i64 t, .int .i64 z, .bool null] 44) := ⟨_, rfl⟩
    rw [← hw1]
    have hb1 : Bel w w1 := by rw [hw1]; exact (Bel.refl w).alloc _
    have hc0 : w1.cell? ⟨w.heap.size, 0, none⟩ = some (.string name) := by rw [hw1]; go_simp
    have hc1 : w1.cell? ⟨w.heap.size, 1, none⟩ = some (.int .i64 t) := by rw [hw1]; go_simp
    have hc2 : w1.cell? ⟨w.heap.size, 2, none⟩ = some (.int .i64 z) := by rw [hw1]; go_simp
    clear hw1
    have hS : ∀ V, Bel w1 V → (Bel w1 V ∧ V.cell? ⟨w.heap.size, 1, none⟩ = some (.int .i64 t)) := fun V h => ⟨h, h.c hc1⟩
    apply wp_cut2 (R := fun bm bx V => Bel w1 V ∧ V.cell? ⟨bx, 0, none⟩ = some (.func (.func f) #[] #[]))
    case h =>
      refine wp_region_noPanic ?_
      refine wp_region_held_drew (S := (fun V : World => Bel w1 V ∧ V.cell? ⟨w.heap.size, 1, none⟩ = some (.int .i64 t))) (by kernel_rfl) ?_ (fun hHr1_0 => ?_)
      · (try dsimp only); (first | assumption | exact hS _ (Bel.refl w1).drew | exact hS _ hB2 | exact hS _ (Bel.alloc hB2 _) | exact hS _ (Bel.alloc (Bel.refl w1).drew _) | exact hS _ (Bel.setCell (Bel.setCell (Bel.setCell hB2 (Nat.le_refl _) _) (Nat.le_refl _) _) (Nat.le_refl _) _))
      refine wpAnyH_take (i := 1) (oi := _) (v := ?vr1_1_1) rfl (by kernel_rfl) (by kernel_rfl) (by kernel_rfl) ?hqr1_1_1 (Or.inl ⟨by kernel_rfl, ?hyr1_1_1⟩) (by assumption) ?restr1_1_1
      case hqr1_1_1 => exact fun _ _ _ h => h
      case hyr1_1_1 => (intro w hSw; (try dsimp only at hSw); go_simp; try with_reducible rfl)
      try simp only [Act.put, List.getElem_toArray, List.getElem_cons_succ, List.getElem_cons_zero, List.setIfInBounds_toArray, List.set_cons_zero, List.set_cons_succ]
      refine wpAnyH_take (i := 2) (oi := _) (v := ?vr1_1_2) rfl (by kernel_rfl) (by kernel_rfl) (by kernel_rfl) ?hqr1_1_2 (Or.inl ⟨by kernel_rfl, ?hyr1_1_2⟩) (by assumption) ?restr1_1_2
      case hqr1_1_2 => exact fun _ _ _ h => h
      case hyr1_1_2 => (intro w hSw; (try dsimp only at hSw); go_simp; try with_reducible rfl)
      try simp only [Act.put, List.getElem_toArray, List.getElem_cons_succ, List.getElem_cons_zero, List.setIfInBounds_toArray, List.set_cons_zero, List.set_cons_succ]
      refine wpAnyH_ready (rs := [0, 7]) (by kernel_rfl) (by simp) ?_
      refine AllReadyH.cons (o := _) rfl (fun K hK => ?_) (AllReadyH.cons (o := _) rfl (fun K hK => ?_) (AllReadyH.nil))
      · go_simp
        (go_at_call 98; refine (sckinds_any _).mono ?_; rintro e w2 ⟨bm, rfl, hm, hb2⟩; have hB2 : Bel w1 w2 := Bel.then_ (Bel.refl w1).drew hb2)
        try (go_wp2_with fail)
        refine hK.out _ _ ?_ (fun hHr1_1 => ?_)
        · (try dsimp only); (first | assumption | exact hS _ (Bel.refl w1).drew | exact hS _ hB2 | exact hS _ (Bel.alloc hB2 _) | exact hS _ (Bel.alloc (Bel.refl w1).drew _) | exact hS _ (Bel.setCell (Bel.setCell (Bel.setCell hB2 (Nat.le_refl _) _) (Nat.le_refl _) _) (Nat.le_refl _) _))
        clear hK K hHr1_0
        try simp only [Act.put, List.getElem_toArray, List.getElem_cons_succ, List.getElem_cons_zero, List.setIfInBounds_toArray, List.set_cons_zero, List.set_cons_succ]
        refine wpAnyH_ready (rs := [3, 7]) (by kernel_rfl) (by simp) ?_
        refine AllReadyH.cons (o := _) rfl (fun K hK => ?_) (AllReadyH.cons (o := _) rfl (fun K hK => ?_) (AllReadyH.nil))
        · go_simp
          ((have hlk := HLO.out bm _ hm); go_simp)
          refine hK.out _ _ ?_ (fun hHr1_2 => ?_)
          · (try dsimp only); (first | assumption | exact hS _ (Bel.refl w1).drew | exact hS _ hB2 | exact hS _ (Bel.alloc hB2 _) | exact hS _ (Bel.alloc (Bel.refl w1).drew _) | exact hS _ (Bel.setCell (Bel.setCell (Bel.setCell hB2 (Nat.le_refl _) _) (Nat.le_refl _) _) (Nat.le_refl _) _))
          clear hK K hHr1_1
          try simp only [Act.put, List.getElem_toArray, List.getElem_cons_succ, List.getElem_cons_zero, List.setIfInBounds_toArray, List.set_cons_zero, List.set_cons_succ]
          refine wpAnyH_take (i := 4) (oi := _) (v := ?vr1_3_4) rfl (by kernel_rfl) (by kernel_rfl) (by kernel_rfl) ?hqr1_3_4 (Or.inl ⟨by kernel_rfl, ?hyr1_3_4⟩) (by assumption) ?restr1_3_4
          case hqr1_3_4 => exact fun _ _ _ h => h
          case hyr1_3_4 => (intro w hSw; (try dsimp only at hSw); go_simp; try with_reducible rfl)
          try simp only [Act.put, List.getElem_toArray, List.getElem_cons_succ, List.getElem_cons_zero, List.setIfInBounds_toArray, List.set_cons_zero, List.set_cons_succ]
          refine wpAnyH_take (i := 5) (oi := _) (v := ?vr1_3_5) rfl (by kernel_rfl) (by kernel_rfl) (by kernel_rfl) ?hqr1_3_5 (Or.inl ⟨by kernel_rfl, ?hyr1_3_5⟩) (by assumption) ?restr1_3_5
          case hqr1_3_5 => exact fun _ _ _ h => h
          case hyr1_3_5 => (intro w hSw; (try dsimp only at hSw); go_simp; try with_reducible rfl)
          try simp only [Act.put, List.getElem_toArray, List.getElem_cons_succ, List.getElem_cons_zero, List.setIfInBounds_toArray, List.set_cons_zero, List.set_cons_succ]
          refine wpAnyH_take (i := 6) (oi := _) (v := ?vr1_3_6) rfl (by kernel_rfl) (by kernel_rfl) (by kernel_rfl) ?hqr1_3_6 (Or.inl ⟨by kernel_rfl, ?hyr1_3_6⟩) (by assumption) ?restr1_3_6
          case hqr1_3_6 => exact fun _ _ _ h => h
          case hyr1_3_6 => (intro w hSw; (try dsimp only at hSw); go_simp; try with_reducible rfl)
          try simp only [Act.put, List.getElem_toArray, List.getElem_cons_succ, List.getElem_cons_zero, List.setIfInBounds_toArray, List.set_cons_zero, List.set_cons_succ]
          refine wpAnyH_ready (rs := [7]) (by kernel_rfl) (by simp) ?_
          refine AllReadyH.cons (o := _) rfl (fun K hK => ?_) AllReadyH.nil
          go_simp
          refine hK.out _ _ ?_ (fun hHr1_3 => ?_)
          · (try dsimp only); (first | assumption | exact hS _ (Bel.refl w1).drew | exact hS _ hB2 | exact hS _ (Bel.alloc hB2 _) | exact hS _ (Bel.alloc (Bel.refl w1).drew _) | exact hS _ (Bel.setCell (Bel.setCell (Bel.setCell hB2 (Nat.le_refl _) _) (Nat.le_refl _) _) (Nat.le_refl _) _))
          clear hK K hHr1_2
          try simp only [Act.put, List.getElem_toArray, List.getElem_cons_succ, List.getElem_cons_zero, List.setIfInBounds_toArray, List.set_cons_zero, List.set_cons_succ]
          refine wpAnyH_ready (rs := [8]) (by kernel_rfl) (by simp) ?_
          refine AllReadyH.cons (o := _) rfl (fun K hK => ?_) AllReadyH.nil
          go_simp
          refine hK.out _ _ ?_ (fun hHr1_4 => ?_)
          · (try dsimp only); (first | assumption | exact hS _ (Bel.refl w1).drew | exact hS _ hB2 | exact hS _ (Bel.alloc hB2 _) | exact hS _ (Bel.alloc (Bel.refl w1).drew _) | exact hS _ (Bel.setCell (Bel.setCell (Bel.setCell hB2 (Nat.le_refl _) _) (Nat.le_refl _) _) (Nat.le_refl _) _))
          clear hK K hHr1_3
          try simp only [Act.put, List.getElem_toArray, List.getElem_cons_succ, List.getElem_cons_zero, List.setIfInBounds_toArray, List.set_cons_zero, List.set_cons_succ]
          refine wpAnyH_take (i := 9) (oi := _) (v := ?vr1_3_9) rfl (by kernel_rfl) (by kernel_rfl) (by kernel_rfl) ?hqr1_3_9 (Or.inl ⟨by kernel_rfl, ?hyr1_3_9⟩) (by assumption) ?restr1_3_9
          case hqr1_3_9 => exact fun _ _ _ h => h
          case hyr1_3_9 => (intro w hSw; (try dsimp only at hSw); go_simp; try with_reducible rfl)
          try simp only [Act.put, List.getElem_toArray, List.getElem_cons_succ, List.getElem_cons_zero, List.setIfInBounds_toArray, List.set_cons_zero, List.set_cons_succ]
          refine wpAnyH_done (by kernel_rfl) ?_ _
          refine NoPanic.normal ?_
          (refine ⟨bm, w2.heap.size, rfl, ?_, hHr1_4.1, by go_simp⟩; generalize w2.heap.size = bx; exact rfl)
        · go_simp
          refine hK.out _ _ ?_ (fun hHr1_2 => ?_)
          · (try dsimp only); (first | assumption | exact hS _ (Bel.refl w1).drew | exact hS _ hB2 | exact hS _ (Bel.alloc hB2 _) | exact hS _ (Bel.alloc (Bel.refl w1).drew _) | exact hS _ (Bel.setCell (Bel.setCell (Bel.setCell hB2 (Nat.le_refl _) _) (Nat.le_refl _) _) (Nat.le_refl _) _))
          clear hK K hHr1_1
          try simp only [Act.put, List.getElem_toArray, List.getElem_cons_succ, List.getElem_cons_zero, List.setIfInBounds_toArray, List.set_cons_zero, List.set_cons_succ]
          refine wpAnyH_ready (rs := [3]) (by kernel_rfl) (by simp) ?_
          refine AllReadyH.cons (o := _) rfl (fun K hK => ?_) AllReadyH.nil
          go_simp
          ((have hlk := HLO.out bm _ (((Bel.refl w2).alloc (.cells #[.nilFunc, .int .i64 0, .nilFunc] 156)).deferred hm)); go_simp)
          refine hK.out _ _ ?_ (fun hHr1_3 => ?_)
          · (try dsimp only); (first | assumption | exact hS _ (Bel.refl w1).drew | exact hS _ hB2 | exact hS _ (Bel.alloc hB2 _) | exact hS _ (Bel.alloc (Bel.refl w1).drew _) | exact hS _ (Bel.setCell (Bel.setCell (Bel.setCell hB2 (Nat.le_refl _) _) (Nat.le_refl _) _) (Nat.le_refl _) _))
          clear hK K hHr1_2
          try simp only [Act.put, List.getElem_toArray, List.getElem_cons_succ, List.getElem_cons_zero, List.setIfInBounds_toArray, List.set_cons_zero, List.set_cons_succ]
          refine wpAnyH_take (i := 4) (oi := _) (v := ?vr1_4_4) rfl (by kernel_rfl) (by kernel_rfl) (by kernel_rfl) ?hqr1_4_4 (Or.inl ⟨by kernel_rfl, ?hyr1_4_4⟩) (by assumption) ?restr1_4_4
          case hqr1_4_4 => exact fun _ _ _ h => h
          case hyr1_4_4 => (intro w hSw; (try dsimp only at hSw); go_simp; try with_reducible rfl)
          try simp only [Act.put, List.getElem_toArray, List.getElem_cons_succ, List.getElem_cons_zero, List.setIfInBounds_toArray, List.set_cons_zero, List.set_cons_succ]
          refine wpAnyH_take (i := 5) (oi := _) (v := ?vr1_4_5) rfl (by kernel_rfl) (by kernel_rfl) (by kernel_rfl) ?hqr1_4_5 (Or.inl ⟨by kernel_rfl, ?hyr1_4_5⟩) (by assumption) ?restr1_4_5
          case hqr1_4_5 => exact fun _ _ _ h => h
          case hyr1_4_5 => (intro w hSw; (try dsimp only at hSw); go_simp; try with_reducible rfl)
          try simp only [Act.put, List.getElem_toArray, List.getElem_cons_succ, List.getElem_cons_zero, List.setIfInBounds_toArray, List.set_cons_zero, List.set_cons_succ]
          refine wpAnyH_take (i := 6) (oi := _) (v := ?vr1_4_6) rfl (by kernel_rfl) (by kernel_rfl) (by kernel_rfl) ?hqr1_4_6 (Or.inl ⟨by kernel_rfl, ?hyr1_4_6⟩) (by assumption) ?restr1_4_6
          case hqr1_4_6 => exact fun _ _ _ h => h
          case hyr1_4_6 => (intro w hSw; (try dsimp only at hSw); go_simp; try with_reducible rfl)
          try simp only [Act.put, List.getElem_toArray, List.getElem_cons_succ, List.getElem_cons_zero, List.setIfInBounds_toArray, List.set_cons_zero, List.set_cons_succ]
          refine wpAnyH_ready (rs := [8]) (by kernel_rfl) (by simp) ?_
          refine AllReadyH.cons (o := _) rfl (fun K hK => ?_) AllReadyH.nil
          go_simp
          refine hK.out _ _ ?_ (fun hHr1_4 => ?_)
          · (try dsimp only); (first | assumption | exact hS _ (Bel.refl w1).drew | exact hS _ hB2 | exact hS _ (Bel.alloc hB2 _) | exact hS _ (Bel.alloc (Bel.refl w1).drew _) | exact hS _ (Bel.setCell (Bel.setCell (Bel.setCell hB2 (Nat.le_refl _) _) (Nat.le_refl _) _) (Nat.le_refl _) _))
          clear hK K hHr1_3
          try simp only [Act.put, List.getElem_toArray, List.getElem_cons_succ, List.getElem_cons_zero, List.setIfInBounds_toArray, List.set_cons_zero, List.set_cons_succ]
          refine wpAnyH_take (i := 9) (oi := _) (v := ?vr1_4_9) rfl (by kernel_rfl) (by kernel_rfl) (by kernel_rfl) ?hqr1_4_9 (Or.inl ⟨by kernel_rfl, ?hyr1_4_9⟩) (by assumption) ?restr1_4_9
          case hqr1_4_9 => exact fun _ _ _ h => h
          case hyr1_4_9 => (intro w hSw; (try dsimp only at hSw); go_simp; try with_reducible rfl)
          try simp only [Act.put, List.getElem_toArray, List.getElem_cons_succ, List.getElem_cons_zero, List.setIfInBounds_toArray, List.set_cons_zero, List.set_cons_succ]
          refine wpAnyH_done (by kernel_rfl) ?_ _
          refine NoPanic.normal ?_
          (refine ⟨bm, w2.heap.size, rfl, ?_, hHr1_4.1, by go_simp⟩; generalize w2.heap.size = bx; exact rfl)
      · go_simp
        refine hK.out _ _ ?_ (fun hHr1_1 => ?_)
        · (try dsimp only); (first | assumption | exact hS _ (Bel.refl w1).drew | exact hS _ hB2 | exact hS _ (Bel.alloc hB2 _) | exact hS _ (Bel.alloc (Bel.refl w1).drew _) | exact hS _ (Bel.setCell (Bel.setCell (Bel.setCell hB2 (Nat.le_refl _) _) (Nat.le_refl _) _) (Nat.le_refl _) _))
        clear hK K hHr1_0
        try simp only [Act.put, List.getElem_toArray, List.getElem_cons_succ, List.getElem_cons_zero, List.setIfInBounds_toArray, List.set_cons_zero, List.set_cons_succ]
        refine wpAnyH_ready (rs := [0]) (by kernel_rfl) (by simp) ?_
        refine AllReadyH.cons (o := _) rfl (fun K hK => ?_) AllReadyH.nil
        go_simp
        (go_at_call 98; refine (sckinds_any _).mono ?_; rintro e w2 ⟨bm, rfl, hm, hb2⟩; have hB2 : Bel w1 w2 := Bel.then_ (Bel.alloc (Bel.refl w1).drew _) hb2; have z0 : w2.cell? ⟨w1.heap.size, 0, none⟩ = some .nilFunc := hb2.c (by go_simp); have z1 : w2.cell? ⟨w1.heap.size, 1, none⟩ = some (.int .i64 0) := hb2.c (by go_simp); have z2 : w2.cell? ⟨w1.heap.size, 2, none⟩ = some .nilFunc := hb2.c (by go_simp); have y0 : w2.frozen? ⟨w1.heap.size, 0, none⟩ = false := (Below.frozen hb2 (by simp)).trans (by go_simp); have y1 : w2.frozen? ⟨w1.heap.size, 1, none⟩ = false := (Below.frozen hb2 (by simp)).trans (by go_simp); have y2 : w2.frozen? ⟨w1.heap.size, 2, none⟩ = false := (Below.frozen hb2 (by simp)).trans (by go_simp))
        try (go_wp2_with fail)
        refine hK.out _ _ ?_ (fun hHr1_2 => ?_)
        · (try dsimp only); (first | assumption | exact hS _ (Bel.refl w1).drew | exact hS _ hB2 | exact hS _ (Bel.alloc hB2 _) | exact hS _ (Bel.alloc (Bel.refl w1).drew _) | exact hS _ (Bel.setCell (Bel.setCell (Bel.setCell hB2 (Nat.le_refl _) _) (Nat.le_refl _) _) (Nat.le_refl _) _))
        clear hK K hHr1_1
        try simp only [Act.put, List.getElem_toArray, List.getElem_cons_succ, List.getElem_cons_zero, List.setIfInBounds_toArray, List.set_cons_zero, List.set_cons_succ]
        refine wpAnyH_ready (rs := [3]) (by kernel_rfl) (by simp) ?_
        refine AllReadyH.cons (o := _) rfl (fun K hK => ?_) AllReadyH.nil
        go_simp
        ((have hlk := HLO.out bm _ hm); go_simp)
        refine hK.out _ _ ?_ (fun hHr1_3 => ?_)
        · (try dsimp only); (first | assumption | exact hS _ (Bel.refl w1).drew | exact hS _ hB2 | exact hS _ (Bel.alloc hB2 _) | exact hS _ (Bel.alloc (Bel.refl w1).drew _) | exact hS _ (Bel.setCell (Bel.setCell (Bel.setCell hB2 (Nat.le_refl _) _) (Nat.le_refl _) _) (Nat.le_refl _) _))
        clear hK K hHr1_2
        try simp only [Act.put, List.getElem_toArray, List.getElem_cons_succ, List.getElem_cons_zero, List.setIfInBounds_toArray, List.set_cons_zero, List.set_cons_succ]
        refine wpAnyH_take (i := 4) (oi := _) (v := ?vr1_5_4) rfl (by kernel_rfl) (by kernel_rfl) (by kernel_rfl) ?hqr1_5_4 (Or.inl ⟨by kernel_rfl, ?hyr1_5_4⟩) (by assumption) ?restr1_5_4
        case hqr1_5_4 => exact fun _ _ _ h => h
        case hyr1_5_4 => (intro w hSw; (try dsimp only at hSw); go_simp; try with_reducible rfl)
        try simp only [Act.put, List.getElem_toArray, List.getElem_cons_succ, List.getElem_cons_zero, List.setIfInBounds_toArray, List.set_cons_zero, List.set_cons_succ]
        refine wpAnyH_take (i := 5) (oi := _) (v := ?vr1_5_5) rfl (by kernel_rfl) (by kernel_rfl) (by kernel_rfl) ?hqr1_5_5 (Or.inl ⟨by kernel_rfl, ?hyr1_5_5⟩) (by assumption) ?restr1_5_5
        case hqr1_5_5 => exact fun _ _ _ h => h
        case hyr1_5_5 => (intro w hSw; (try dsimp only at hSw); go_simp; try with_reducible rfl)
        try simp only [Act.put, List.getElem_toArray, List.getElem_cons_succ, List.getElem_cons_zero, List.setIfInBounds_toArray, List.set_cons_zero, List.set_cons_succ]
        refine wpAnyH_take (i := 6) (oi := _) (v := ?vr1_5_6) rfl (by kernel_rfl) (by kernel_rfl) (by kernel_rfl) ?hqr1_5_6 (Or.inl ⟨by kernel_rfl, ?hyr1_5_6⟩) (by assumption) ?restr1_5_6
        case hqr1_5_6 => exact fun _ _ _ h => h
        case hyr1_5_6 => (intro w hSw; (try dsimp only at hSw); go_simp; try with_reducible rfl)
        try simp only [Act.put, List.getElem_toArray, List.getElem_cons_succ, List.getElem_cons_zero, List.setIfInBounds_toArray, List.set_cons_zero, List.set_cons_succ]
        refine wpAnyH_ready (rs := [8]) (by kernel_rfl) (by simp) ?_
        refine AllReadyH.cons (o := _) rfl (fun K hK => ?_) AllReadyH.nil
        go_simp
        refine hK.out _ _ ?_ (fun hHr1_4 => ?_)
        · (try dsimp only); (first | assumption | exact hS _ (Bel.refl w1).drew | exact hS _ hB2 | exact hS _ (Bel.alloc hB2 _) | exact hS _ (Bel.alloc (Bel.refl w1).drew _) | exact hS _ (Bel.setCell (Bel.setCell (Bel.setCell hB2 (Nat.le_refl _) _) (Nat.le_refl _) _) (Nat.le_refl _) _))
        clear hK K hHr1_3
        try simp only [Act.put, List.getElem_toArray, List.getElem_cons_succ, List.getElem_cons_zero, List.setIfInBounds_toArray, List.set_cons_zero, List.set_cons_succ]
        refine wpAnyH_take (i := 9) (oi := _) (v := ?vr1_5_9) rfl (by kernel_rfl) (by kernel_rfl) (by kernel_rfl) ?hqr1_5_9 (Or.inl ⟨by kernel_rfl, ?hyr1_5_9⟩) (by assumption) ?restr1_5_9
        case hqr1_5_9 => exact fun _ _ _ h => h
        case hyr1_5_9 => (intro w hSw; (try dsimp only at hSw); go_simp; try with_reducible rfl)
        try simp only [Act.put, List.getElem_toArray, List.getElem_cons_succ, List.getElem_cons_zero, List.setIfInBounds_toArray, List.set_cons_zero, List.set_cons_succ]
        refine wpAnyH_done (by kernel_rfl) ?_ _
        refine NoPanic.normal ?_
        (refine ⟨bm, w1.heap.size, rfl, ?_, hHr1_4.1, by go_simp⟩; generalize w1.heap.size = bx; exact rfl)
    case k =>
      rintro bm bx V ⟨hb, hk0⟩
      have HB := Lib.hid (hb1.then_ hb)
      have hd0 := hb.c hc0
      have hd2 := hb.c hc2
      clear hS hb1 hb hc0 hc1 hc2
      obtain ⟨nb, hnb⟩ : ∃ nb, nb = namedB name := ⟨_, rfl⟩
      have HNM := Lib.hid (fun V => named_any name V)
      rw [← hnb] at HNM
      have HNB := Lib.hid hnb
      clear hnb
      cases nb
      · go_wp2_with (go_at_call 139; refine (HNM.out _).mono ?_; rintro e w4 ⟨rfl, hb4⟩)
        go_ret
        exact ⟨by rw [HR.out]; unfold rightB; dsimp only; rw [← HNB.out]; simp, HB.out.then_ hb4⟩
      · go_wp2_with (first | (go_at_call 139; refine (HNM.out _).mono ?_; rintro e w4 ⟨rfl, hb4⟩; have hk4 := hb4.c hk0; have hd4 := hb4.c hd2) | (go_at_fn f; refine (HSZ.out _).mono ?_; rintro e w5 ⟨rfl, hb5⟩))
        go_ret
        exact ⟨by rw [HR.out]; unfold rightB; dsimp only; rw [← HNB.out, decide_eq_true HT.out]; simp, (HB.out.then_ hb4).then_ hb5⟩
  · have HLO := Lib.hid (fun (b : Nat) (V : World) (hb : V.heap[b]? = some (.map skMap 4)) => skLookNo ht hb)
    have HRF : Hid (R = false) := by show R = false; rw [HR.out]; unfold rightB; dsimp only; rw [decide_eq_false ht]; simp
    clear ht
    go_enter Tryz.func96, Tryz.ntmps96
    go_wp2
    obtain ⟨w1, hw1⟩ : ∃ w1, w1 = w.alloc (.cells #[.string name, .int .i64 t, .int .i64 z, .bool null] 44) := ⟨_, rfl⟩
    rw [← hw1]
    have hb1 : Bel w w1 := by rw [hw1]; exact (Bel.refl w).alloc _
    have hc0 : w1.cell? ⟨w.heap.size, 0, none⟩ = some (.string name) := by rw [hw1]; go_simp
    have hc1 : w1.cell? ⟨w.heap.size, 1, none⟩ = some (.int .i64 t) := by rw [hw1]; go_simp
    have hc2 : w1.cell? ⟨w.heap.size, 2, none⟩ = some (.int .i64 z) := by rw [hw1]; go_simp
    clear hw1
    have hS : ∀ V, Bel w1 V → (Bel w1 V ∧ V.cell? ⟨w.heap.size, 1, none⟩ = some (.int .i64 t)) := fun V h => ⟨h, h.c hc1⟩
    apply wp_cut2 (R := fun bm bx V => Bel w1 V ∧ True)
    case h =>
      refine wp_region_noPanic ?_
      refine wp_region_held_drew (S := (fun V : World => Bel w1 V ∧ V.cell? ⟨w.heap.size, 1, none⟩ = some (.int .i64 t))) (by kernel_rfl) ?_ (fun hHr2_0 => ?_)
      · (try dsimp only); (first | assumption | exact hS _ (Bel.refl w1).drew | exact hS _ hB2 | exact hS _ (Bel.alloc hB2 _) | exact hS _ (Bel.alloc (Bel.refl w1).drew _) | exact hS _ (Bel.setCell (Bel.setCell (Bel.setCell hB2 (Nat.le_refl _) _) (Nat.le_refl _) _) (Nat.le_refl _) _))
      refine wpAnyH_take (i := 1) (oi := _) (v := ?vr2_1_1) rfl (by kernel_rfl) (by kernel_rfl) (by kernel_rfl) ?hqr2_1_1 (Or.inl ⟨by kernel_rfl, ?hyr2_1_1⟩) (by assumption) ?restr2_1_1
      case hqr2_1_1 => exact fun _ _ _ h => h
      case hyr2_1_1 => (intro w hSw; (try dsimp only at hSw); go_simp; try with_reducible rfl)
      try simp only [Act.put, List.getElem_toArray, List.getElem_cons_succ, List.getElem_cons_zero, List.setIfInBounds_toArray, List.set_cons_zero, List.set_cons_succ]
      refine wpAnyH_take (i := 2) (oi := _) (v := ?vr2_1_2) rfl (by kernel_rfl) (by kernel_rfl) (by kernel_rfl) ?hqr2_1_2 (Or.inl ⟨by kernel_rfl, ?hyr2_1_2⟩) (by assumption) ?restr2_1_2
      case hqr2_1_2 => exact fun _ _ _ h => h
      case hyr2_1_2 => (intro w hSw; (try dsimp only at hSw); go_simp; try with_reducible rfl)
      try simp only [Act.put, List.getElem_toArray, List.getElem_cons_succ, List.getElem_cons_zero, List.setIfInBounds_toArray, List.set_cons_zero, List.set_cons_succ]
      refine wpAnyH_ready (rs := [0, 7]) (by kernel_rfl) (by simp) ?_
      refine AllReadyH.cons (o := _) rfl (fun K hK => ?_) (AllReadyH.cons (o := _) rfl (fun K hK => ?_) (AllReadyH.nil))
      · go_simp
        (go_at_call 98; refine (sckinds_any _).mono ?_; rintro e w2 ⟨bm, rfl, hm, hb2⟩; have hB2 : Bel w1 w2 := Bel.then_ (Bel.refl w1).drew hb2)
        try (go_wp2_with fail)
        refine hK.out _ _ ?_ (fun hHr2_1 => ?_)
        · (try dsimp only); (first | assumption | exact hS _ (Bel.refl w1).drew | exact hS _ hB2 | exact hS _ (Bel.alloc hB2 _) | exact hS _ (Bel.alloc (Bel.refl w1).drew _) | exact hS _ (Bel.setCell (Bel.setCell (Bel.setCell hB2 (Nat.le_refl _) _) (Nat.le_refl _) _) (Nat.le_refl _) _))
        clear hK K hHr2_0
        try simp only [Act.put, List.getElem_toArray, List.getElem_cons_succ, List.getElem_cons_zero, List.setIfInBounds_toArray, List.set_cons_zero, List.set_cons_succ]
        refine wpAnyH_ready (rs := [3, 7]) (by kernel_rfl) (by simp) ?_
        refine AllReadyH.cons (o := _) rfl (fun K hK => ?_) (AllReadyH.cons (o := _) rfl (fun K hK => ?_) (AllReadyH.nil))
        · go_simp
          ((have hlk := HLO.out bm _ hm); go_simp)
          refine hK.out _ _ ?_ (fun hHr2_2 => ?_)
          · (try dsimp only); (first | assumption | exact hS _ (Bel.refl w1).drew | exact hS _ hB2 | exact hS _ (Bel.alloc hB2 _) | exact hS _ (Bel.alloc (Bel.refl w1).drew _) | exact hS _ (Bel.setCell (Bel.setCell (Bel.setCell hB2 (Nat.le_refl _) _) (Nat.le_refl _) _) (Nat.le_refl _) _))
          clear hK K hHr2_1
          try simp only [Act.put, List.getElem_toArray, List.getElem_cons_succ, List.getElem_cons_zero, List.setIfInBounds_toArray, List.set_cons_zero, List.set_cons_succ]
          refine wpAnyH_take (i := 4) (oi := _) (v := ?vr2_3_4) rfl (by kernel_rfl) (by kernel_rfl) (by kernel_rfl) ?hqr2_3_4 (Or.inl ⟨by kernel_rfl, ?hyr2_3_4⟩) (by assumption) ?restr2_3_4
          case hqr2_3_4 => exact fun _ _ _ h => h
          case hyr2_3_4 => (intro w hSw; (try dsimp only at hSw); go_simp; try with_reducible rfl)
          try simp only [Act.put, List.getElem_toArray, List.getElem_cons_succ, List.getElem_cons_zero, List.setIfInBounds_toArray, List.set_cons_zero, List.set_cons_succ]
          refine wpAnyH_take (i := 5) (oi := _) (v := ?vr2_3_5) rfl (by kernel_rfl) (by kernel_rfl) (by kernel_rfl) ?hqr2_3_5 (Or.inl ⟨by kernel_rfl, ?hyr2_3_5⟩) (by assumption) ?restr2_3_5
          case hqr2_3_5 => exact fun _ _ _ h => h
          case hyr2_3_5 => (intro w hSw; (try dsimp only at hSw); go_simp; try with_reducible rfl)
          try simp only [Act.put, List.getElem_toArray, List.getElem_cons_succ, List.getElem_cons_zero, List.setIfInBounds_toArray, List.set_cons_zero, List.set_cons_succ]
          refine wpAnyH_take (i := 6) (oi := _) (v := ?vr2_3_6) rfl (by kernel_rfl) (by kernel_rfl) (by kernel_rfl) ?hqr2_3_6 (Or.inl ⟨by kernel_rfl, ?hyr2_3_6⟩) (by assumption) ?restr2_3_6
          case hqr2_3_6 => exact fun _ _ _ h => h
          case hyr2_3_6 => (intro w hSw; (try dsimp only at hSw); go_simp; try with_reducible rfl)
          try simp only [Act.put, List.getElem_toArray, List.getElem_cons_succ, List.getElem_cons_zero, List.setIfInBounds_toArray, List.set_cons_zero, List.set_cons_succ]
          refine wpAnyH_ready (rs := [7]) (by kernel_rfl) (by simp) ?_
          refine AllReadyH.cons (o := _) rfl (fun K hK => ?_) AllReadyH.nil
          go_simp
          refine hK.out _ _ ?_ (fun hHr2_3 => ?_)
          · (try dsimp only); (first | assumption | exact hS _ (Bel.refl w1).drew | exact hS _ hB2 | exact hS _ (Bel.alloc hB2 _) | exact hS _ (Bel.alloc (Bel.refl w1).drew _) | exact hS _ (Bel.setCell (Bel.setCell (Bel.setCell hB2 (Nat.le_refl _) _) (Nat.le_refl _) _) (Nat.le_refl _) _))
          clear hK K hHr2_2
          try simp only [Act.put, List.getElem_toArray, List.getElem_cons_succ, List.getElem_cons_zero, List.setIfInBounds_toArray, List.set_cons_zero, List.set_cons_succ]
          refine wpAnyH_ready (rs := [8]) (by kernel_rfl) (by simp) ?_
          refine AllReadyH.cons (o := _) rfl (fun K hK => ?_) AllReadyH.nil
          go_simp
          refine hK.out _ _ ?_ (fun hHr2_4 => ?_)
          · (try dsimp only); (first | assumption | exact hS _ (Bel.refl w1).drew | exact hS _ hB2 | exact hS _ (Bel.alloc hB2 _) | exact hS _ (Bel.alloc (Bel.refl w1).drew _) | exact hS _ (Bel.setCell (Bel.setCell (Bel.setCell hB2 (Nat.le_refl _) _) (Nat.le_refl _) _) (Nat.le_refl _) _))
          clear hK K hHr2_3
          try simp only [Act.put, List.getElem_toArray, List.getElem_cons_succ, List.getElem_cons_zero, List.setIfInBounds_toArray, List.set_cons_zero, List.set_cons_succ]
          refine wpAnyH_take (i := 9) (oi := _) (v := ?vr2_3_9) rfl (by kernel_rfl) (by kernel_rfl) (by kernel_rfl) ?hqr2_3_9 (Or.inl ⟨by kernel_rfl, ?hyr2_3_9⟩) (by assumption) ?restr2_3_9
          case hqr2_3_9 => exact fun _ _ _ h => h
          case hyr2_3_9 => (intro w hSw; (try dsimp only at hSw); go_simp; try with_reducible rfl)
          try simp only [Act.put, List.getElem_toArray, List.getElem_cons_succ, List.getElem_cons_zero, List.setIfInBounds_toArray, List.set_cons_zero, List.set_cons_succ]
          refine wpAnyH_done (by kernel_rfl) ?_ _
          refine NoPanic.normal ?_
          (refine ⟨bm, w2.heap.size, rfl, ?_, hHr2_4.1, trivial⟩; generalize w2.heap.size = bx; exact rfl)
        · go_simp
          refine hK.out _ _ ?_ (fun hHr2_2 => ?_)
          · (try dsimp only); (first | assumption | exact hS _ (Bel.refl w1).drew | exact hS _ hB2 | exact hS _ (Bel.alloc hB2 _) | exact hS _ (Bel.alloc (Bel.refl w1).drew _) | exact hS _ (Bel.setCell (Bel.setCell (Bel.setCell hB2 (Nat.le_refl _) _) (Nat.le_refl _) _) (Nat.le_refl _) _))
          clear hK K hHr2_1
          try simp only [Act.put, List.getElem_toArray, List.getElem_cons_succ, List.getElem_cons_zero, List.setIfInBounds_toArray, List.set_cons_zero, List.set_cons_succ]
          refine wpAnyH_ready (rs := [3]) (by kernel_rfl) (by simp) ?_
          refine AllReadyH.cons (o := _) rfl (fun K hK => ?_) AllReadyH.nil
          go_simp
          ((have hlk := HLO.out bm _ (((Bel.refl w2).alloc (.cells #[.nilFunc, .int .i64 0, .nilFunc] 156)).deferred hm)); go_simp)
          refine hK.out _ _ ?_ (fun hHr2_3 => ?_)
          · (try dsimp only); (first | assumption | exact hS _ (Bel.refl w1).drew | exact hS _ hB2 | exact hS _ (Bel.alloc hB2 _) | exact hS _ (Bel.alloc (Bel.refl w1).drew _) | exact hS _ (Bel.setCell (Bel.setCell (Bel.setCell hB2 (Nat.le_refl _) _) (Nat.le_refl _) _) (Nat.le_refl _) _))
          clear hK K hHr2_2
          try simp only [Act.put, List.getElem_toArray, List.getElem_cons_succ, List.getElem_cons_zero, List.setIfInBounds_toArray, List.set_cons_zero, List.set_cons_succ]
          refine wpAnyH_take (i := 4) (oi := _) (v := ?vr2_4_4) rfl (by kernel_rfl) (by kernel_rfl) (by kernel_rfl) ?hqr2_4_4 (Or.inl ⟨by kernel_rfl, ?hyr2_4_4⟩) (by assumption) ?restr2_4_4
          case hqr2_4_4 => exact fun _ _ _ h => h
          case hyr2_4_4 => (intro w hSw; (try dsimp only at hSw); go_simp; try with_reducible rfl)
          try simp only [Act.put, List.getElem_toArray, List.getElem_cons_succ, List.getElem_cons_zero, List.setIfInBounds_toArray, List.set_cons_zero, List.set_cons_succ]
          refine wpAnyH_take (i := 5) (oi := _) (v := ?vr2_4_5) rfl (by kernel_rfl) (by kernel_rfl) (by kernel_rfl) ?hqr2_4_5 (Or.inl ⟨by kernel_rfl, ?hyr2_4_5⟩) (by assumption) ?restr2_4_5
          case hqr2_4_5 => exact fun _ _ _ h => h
          case hyr2_4_5 => (intro w hSw; (try dsimp only at hSw); go_simp; try with_reducible rfl)
          try simp only [Act.put, List.getElem_toArray, List.getElem_cons_succ, List.getElem_cons_zero, List.setIfInBounds_toArray, List.set_cons_zero, List.set_cons_succ]
          refine wpAnyH_take (i := 6) (oi := _) (v := ?vr2_4_6) rfl (by kernel_rfl) (by kernel_rfl) (by kernel_rfl) ?hqr2_4_6 (Or.inl ⟨by kernel_rfl, ?hyr2_4_6⟩) (by assumption) ?restr2_4_6
          case hqr2_4_6 => exact fun _ _ _ h => h
          case hyr2_4_6 => (intro w hSw; (try dsimp only at hSw); go_simp; try with_reducible rfl)
          try simp only [Act.put, List.getElem_toArray, List.getElem_cons_succ, List.getElem_cons_zero, List.setIfInBounds_toArray, List.set_cons_zero, List.set_cons_succ]
          refine wpAnyH_ready (rs := [8]) (by kernel_rfl) (by simp) ?_
          refine AllReadyH.cons (o := _) rfl (fun K hK => ?_) AllReadyH.nil
          go_simp
          refine hK.out _ _ ?_ (fun hHr2_4 => ?_)
          · (try dsimp only); (first | assumption | exact hS _ (Bel.refl w1).drew | exact hS _ hB2 | exact hS _ (Bel.alloc hB2 _) | exact hS _ (Bel.alloc (Bel.refl w1).drew _) | exact hS _ (Bel.setCell (Bel.setCell (Bel.setCell hB2 (Nat.le_refl _) _) (Nat.le_refl _) _) (Nat.le_refl _) _))
          clear hK K hHr2_3
          try simp only [Act.put, List.getElem_toArray, List.getElem_cons_succ, List.getElem_cons_zero, List.setIfInBounds_toArray, List.set_cons_zero, List.set_cons_succ]
          refine wpAnyH_take (i := 9) (oi := _) (v := ?vr2_4_9) rfl (by kernel_rfl) (by kernel_rfl) (by kernel_rfl) ?hqr2_4_9 (Or.inl ⟨by kernel_rfl, ?hyr2_4_9⟩) (by assumption) ?restr2_4_9
          case hqr2_4_9 => exact fun _ _ _ h => h
          case hyr2_4_9 => (intro w hSw; (try dsimp only at hSw); go_simp; try with_reducible rfl)
          try simp only [Act.put, List.getElem_toArray, List.getElem_cons_succ, List.getElem_cons_zero, List.setIfInBounds_toArray, List.set_cons_zero, List.set_cons_succ]
          refine wpAnyH_done (by kernel_rfl) ?_ _
          refine NoPanic.normal ?_
          (refine ⟨bm, w2.heap.size, rfl, ?_, hHr2_4.1, trivial⟩; generalize w2.heap.size = bx; exact rfl)
      · go_simp
        refine hK.out _ _ ?_ (fun hHr2_1 => ?_)
        · (try dsimp only); (first | assumption | exact hS _ (Bel.refl w1).drew | exact hS _ hB2 | exact hS _ (Bel.alloc hB2 _) | exact hS _ (Bel.alloc (Bel.refl w1).drew _) | exact hS _ (Bel.setCell (Bel.setCell (Bel.setCell hB2 (Nat.le_refl _) _) (Nat.le_refl _) _) (Nat.le_refl _) _))
        clear hK K hHr2_0
        try simp only [Act.put, List.getElem_toArray, List.getElem_cons_succ, List.getElem_cons_zero, List.setIfInBounds_toArray, List.set_cons_zero, List.set_cons_succ]
        refine wpAnyH_ready (rs := [0]) (by kernel_rfl) (by simp) ?_
        refine AllReadyH.cons (o := _) rfl (fun K hK => ?_) AllReadyH.nil
        go_simp
        (go_at_call 98; refine (sckinds_any _).mono ?_; rintro e w2 ⟨bm, rfl, hm, hb2⟩; have hB2 : Bel w1 w2 := Bel.then_ (Bel.alloc (Bel.refl w1).drew _) hb2; have z0 : w2.cell? ⟨w1.heap.size, 0, none⟩ = some .nilFunc := hb2.c (by go_simp); have z1 : w2.cell? ⟨w1.heap.size, 1, none⟩ = some (.int .i64 0) := hb2.c (by go_simp); have z2 : w2.cell? ⟨w1.heap.size, 2, none⟩ = some .nilFunc := hb2.c (by go_simp); have y0 : w2.frozen? ⟨w1.heap.size, 0, none⟩ = false := (Below.frozen hb2 (by simp)).trans (by go_simp); have y1 : w2.frozen? ⟨w1.heap.size, 1, none⟩ = false := (Below.frozen hb2 (by simp)).trans (by go_simp); have y2 : w2.frozen? ⟨w1.heap.size, 2, none⟩ = false := (Below.frozen hb2 (by simp)).trans (by go_simp))
        try (go_wp2_with fail)
        refine hK.out _ _ ?_ (fun hHr2_2 => ?_)
        · (try dsimp only); (first | assumption | exact hS _ (Bel.refl w1).drew | exact hS _ hB2 | exact hS _ (Bel.alloc hB2 _) | exact hS _ (Bel.alloc (Bel.refl w1).drew _) | exact hS _ (Bel.setCell (Bel.setCell (Bel.setCell hB2 (Nat.le_refl _) _) (Nat.le_refl _) _) (Nat.le_refl _) _))
        clear hK K hHr2_1
        try simp only [Act.put, List.getElem_toArray, List.getElem_cons_succ, List.getElem_cons_zero, List.setIfInBounds_toArray, List.set_cons_zero, List.set_cons_succ]
        refine wpAnyH_ready (rs := [3]) (by kernel_rfl) (by simp) ?_
        refine AllReadyH.cons (o := _) rfl (fun K hK => ?_) AllReadyH.nil
        go_simp
        ((have hlk := HLO.out bm _ hm); go_simp)
        refine hK.out _ _ ?_ (fun hHr2_3 => ?_)
        · (try dsimp only); (first | assumption | exact hS _ (Bel.refl w1).drew | exact hS _ hB2 | exact hS _ (Bel.alloc hB2 _) | exact hS _ (Bel.alloc (Bel.refl w1).drew _) | exact hS _ (Bel.setCell (Bel.setCell (Bel.setCell hB2 (Nat.le_refl _) _) (Nat.le_refl _) _) (Nat.le_refl _) _))
        clear hK K hHr2_2
        try simp only [Act.put, List.getElem_toArray, List.getElem_cons_succ, List.getElem_cons_zero, List.setIfInBounds_toArray, List.set_cons_zero, List.set_cons_succ]
        refine wpAnyH_take (i := 4) (oi := _) (v := ?vr2_5_4) rfl (by kernel_rfl) (by kernel_rfl) (by kernel_rfl) ?hqr2_5_4 (Or.inl ⟨by kernel_rfl, ?hyr2_5_4⟩) (by assumption) ?restr2_5_4
        case hqr2_5_4 => exact fun _ _ _ h => h
        case hyr2_5_4 => (intro w hSw; (try dsimp only at hSw); go_simp; try with_reducible rfl)
        try simp only [Act.put, List.getElem_toArray, List.getElem_cons_succ, List.getElem_cons_zero, List.setIfInBounds_toArray, List.set_cons_zero, List.set_cons_succ]
        refine wpAnyH_take (i := 5) (oi := _) (v := ?vr2_5_5) rfl (by kernel_rfl) (by kernel_rfl) (by kernel_rfl) ?hqr2_5_5 (Or.inl ⟨by kernel_rfl, ?hyr2_5_5⟩) (by assumption) ?restr2_5_5
        case hqr2_5_5 => exact fun _ _ _ h => h
        case hyr2_5_5 => (intro w hSw; (try dsimp only at hSw); go_simp; try with_reducible rfl)
        try simp only [Act.put, List.getElem_toArray, List.getElem_cons_succ, List.getElem_cons_zero, List.setIfInBounds_toArray, List.set_cons_zero, List.set_cons_succ]
        refine wpAnyH_take (i := 6) (oi := _) (v := ?vr2_5_6) rfl (by kernel_rfl) (by kernel_rfl) (by kernel_rfl) ?hqr2_5_6 (Or.inl ⟨by kernel_rfl, ?hyr2_5_6⟩) (by assumption) ?restr2_5_6
        case hqr2_5_6 => exact fun _ _ _ h => h
        case hyr2_5_6 => (intro w hSw; (try dsimp only at hSw); go_simp; try with_reducible rfl)
        try simp only [Act.put, List.getElem_toArray, List.getElem_cons_succ, List.getElem_cons_zero, List.setIfInBounds_toArray, List.set_cons_zero, List.set_cons_succ]
        refine wpAnyH_ready (rs := [8]) (by kernel_rfl) (by simp) ?_
        refine AllReadyH.cons (o := _) rfl (fun K hK => ?_) AllReadyH.nil
        go_simp
        refine hK.out _ _ ?_ (fun hHr2_4 => ?_)
        · (try dsimp only); (first | assumption | exact hS _ (Bel.refl w1).drew | exact hS _ hB2 | exact hS _ (Bel.alloc hB2 _) | exact hS _ (Bel.alloc (Bel.refl w1).drew _) | exact hS _ (Bel.setCell (Bel.setCell (Bel.setCell hB2 (Nat.le_refl _) _) (Nat.le_refl _) _) (Nat.le_refl _) _))
        clear hK K hHr2_3
        try simp only [Act.put, List.getElem_toArray, List.getElem_cons_succ, List.getElem_cons_zero, List.setIfInBounds_toArray, List.set_cons_zero, List.set_cons_succ]
        refine wpAnyH_take (i := 9) (oi := _) (v := ?vr2_5_9) rfl (by kernel_rfl) (by kernel_rfl) (by kernel_rfl) ?hqr2_5_9 (Or.inl ⟨by kernel_rfl, ?hyr2_5_9⟩) (by assumption) ?restr2_5_9
        case hqr2_5_9 => exact fun _ _ _ h => h
        case hyr2_5_9 => (intro w hSw; (try dsimp only at hSw); go_simp; try with_reducible rfl)
        try simp only [Act.put, List.getElem_toArray, List.getElem_cons_succ, List.getElem_cons_zero, List.setIfInBounds_toArray, List.set_cons_zero, List.set_cons_succ]
        refine wpAnyH_done (by kernel_rfl) ?_ _
        refine NoPanic.normal ?_
        (refine ⟨bm, w1.heap.size, rfl, ?_, hHr2_4.1, trivial⟩; generalize w1.heap.size = bx; exact rfl)
    case k =>
      rintro bm bx V ⟨hb, -⟩
      have HB := Lib.hid (hb1.then_ hb)
      have hd0 := hb.c hc0
      clear hS hb1 hb hc0 hc1 hc2
      go_wp2_with fail
      go_ret
      exact ⟨by rw [HRF.out]; rfl, HB.out⟩
end Go.Proofs.YtkklmflclmgjeaaGreatDoor
