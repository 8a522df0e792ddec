/-
  A range over a function whose body counts its rounds in one boxed variable, and may leave behind a round: the law for the loop (wp_count).
-/
import Derived.Test.YtiajggmnfaidjaaGreatDoorSeq
set_option linter.unusedVariables false
set_option linter.unusedSimpArgs false
set_option linter.unusedVariables false
set_option linter.unusedSimpArgs false
namespace Go.Proofs.YtiajggmnfaidjaaGreatDoor
open Go.RowKit Go.Shelf

theorem Below.c {B : Nat} {w w' : World} (h : Below B w w') {p : Addr} {v : Value} (hc : w.cell? p = some v) (hp : p.block < B) : w'.cell? p = some v := (Below.cell h hp).trans hc
theorem Bel.c {w w' : World} (h : Bel w w') {p : Addr} {v : Value} (hc : w.cell? p = some v) : w'.cell? p = some v := (Below.cell h (World.block_lt_of_cell? (w := w) (a := p) hc)).trans hc
theorem Bel.f {w w' : World} (h : Bel w w') {p : Addr} {v : Value} (hc : w.cell? p = some v) (hf : w.frozen? p = false) : w'.frozen? p = false := (Below.frozen h (World.block_lt_of_cell? (w := w) (a := p) hc)).trans hf
theorem grown_c {w w' : World} {row : Option Nat} (h : w.grownBy w' row) {p : Addr} {v : Value} (hc : w.cell? p = some v) (hp : some p.block ≠ row) : w'.cell? p = some v := h.cell hc hp
theorem grown_f {w w' : World} {row : Option Nat} (h : w.grownBy w' row) {p : Addr} {v : Value} (hc : w.cell? p = some v) (hf : w.frozen? p = false) (hp : some p.block ≠ row) : w'.frozen? p = false :=
  (World.frozen?_of_block (h.block _ (World.block_lt_of_cell? (w := w) (a := p) hc) hp)).trans hf
theorem grown_trans {a b c : World} {row : Option Nat} (h : a.grownBy b row) (k : b.grownBy c row) : a.grownBy c row :=
  ⟨k.os.trans h.os, k.tape.trans h.tape, k.output.trans h.output, Nat.le_trans h.size k.size, fun i hi hr => (k.block i (Nat.lt_of_lt_of_le hi h.size) hr).trans (h.block i hi hr)⟩
theorem grown_refl (w : World) (row : Option Nat) : w.grownBy w row := ⟨rfl, rfl, rfl, Nat.le_refl _, fun _ _ _ => rfl⟩
theorem grown_setCell (w : World) (p : Addr) (v : Value) : w.grownBy (w.setCell p v) (some p.block) := ⟨rfl, rfl, rfl, by simp, fun i _ hr => Below.heap_setCell _ _ _ _ (fun e => hr (by rw [e]))⟩
theorem Bel.grownBy {w w' : World} (h : Bel w w') (row : Option Nat) : w.grownBy w' row := ⟨h.os, h.tape, h.output, h.size, fun i hi _ => h.block i hi⟩
theorem grown_alloc {a b : World} {row : Option Nat} (h : a.grownBy b row) (o : Obj) : a.grownBy (b.alloc o) row := grown_trans h (World.grownBy_alloc b o row)

/-- How many rounds there were: all, none of which left; or so many, the last of which left. -/
def Count (stops : Nat → Bool) (n k : Nat) : Prop :=
  (k = n ∧ ∀ j, 1 ≤ j → j ≤ n → stops j = false) ∨ (1 ≤ k ∧ k ≤ n ∧ stops k = true ∧ ∀ j, 1 ≤ j → j < k → stops j = false)
theorem Count.all {n k : Nat} (h : Count (fun _ => false) n k) : k = n := by
  rcases h with h | h
  · exact h.1
  · simp at h
theorem Count.upto {n k : Nat} {many : Int} (h : Count (fun j => decide ((j : Int) ≥ many)) n k) : (k : Int) = min (n : Int) (max 1 many) := by
  rcases h with ⟨rfl, h⟩ | ⟨h1, h2, h3, h4⟩
  · by_cases hk : k = 0
    · omega
    · have := h k (by omega) (Nat.le_refl _)
      simp at this
      omega
  · simp at h3
    by_cases hk : k = 1
    · omega
    · have := h4 (k - 1) (by omega) (by omega)
      simp at this
      omega

theorem ownFrom_grown {β : Type} {w : World} (row : Nat) : OwnFrom w.heap.size (fun (_ : β) W => w.grownBy W (some row)) := by
  intro s W W' row' hs hg hr
  refine ⟨hg.os.trans hs.os, hg.tape.trans hs.tape, hg.output.trans hs.output, Nat.le_trans hs.size hg.size, fun i hi hne => ?_⟩
  refine (hg.block i (Nat.lt_of_lt_of_le hi hs.size) (fun e => ?_)).trans (hs.block i hi hne)
  have := (hr i e.symm).1
  omega

theorem wp_count {P : Program} {α : Type} {g : Operand} {ps : Array Tmp} {assign body : Code} {Q : Exit → Act → World → Prop} {a : Act} {w : World} (n : Nat)
    (h1 : 1 ≤ n) {gf : Nat} {lb : Array Value} (hg : a.eval g = .func (.func gf) #[] lb) (eg : ∀ args w, (callFunc gf args).run P w = .ok (.enter gf args) w)
    {enc : α → Array Value} {E : α → World → Prop} {n₀ : Nat} {xs : List α} {w0 : World} (hseq : SeqE Fence.wide (n - 1) P gf lb enc E n₀ xs w0) (hn0 : n₀ ≤ w.heap.size) (hb0 : Below n₀ w0 w) (hps : ∀ x, (enc x).size = ps.size) (hE : OwnFrom w.heap.size E)
    (Bn : Nat) (hB0 : n₀ ≤ Bn) (hBw : Bn < w.heap.size) (hc : w.cell? ⟨Bn, 0, none⟩ = some (.int .i64 0)) (hf : w.frozen? ⟨Bn, 0, none⟩ = false) (id : Nat) (stops : Nat → Bool) (a₁ : α → Act)
    (hassign : ∀ (l : Nat) (x : α) (W : World) (K : Act → World → Prop), K (a₁ x) W →
      assign.wpIn (Fence.wide.inRound l) (n - 1 - 1) P (Exit.then K (fun _ _ _ => False)) { tmps := (ps.zip (enc x)).foldl (fun t (p, v) => t.setIfInBounds p v) a.tmps, defers := [] } W)
    (hbody : ∀ (l k : Nat) (x : α) (W : World), xs[k]? = some x → w.heap.size ≤ l → E x W → w.grownBy W (some Bn) → W.cell? ⟨Bn, 0, none⟩ = some (.int .i64 k) → W.frozen? ⟨Bn, 0, none⟩ = false →
      body.wpIn (Fence.wide.inRound l) (n - 1 - 1) P (fun e _ W' => W.grownBy W' (some Bn) ∧ W'.cell? ⟨Bn, 0, none⟩ = some (.int .i64 (k + 1)) ∧ W'.frozen? ⟨Bn, 0, none⟩ = false ∧ (e = .normal ∧ stops (k + 1) = false ∨ e = .exit id ∧ stops (k + 1) = true)) (a₁ x) W)
    (hex : ∀ (a : Act) (W : World), Q .normal a W → Q (.exit id) a W)
    (hout : ∀ (D k : Nat) (W : World), Count stops xs.length k → w.heap.size ≤ D → w.grownBy W (some Bn) → W.cell? ⟨Bn, 0, none⟩ = some (.int .i64 k) → W.heap[D]? = some (.deferred (some [])) →
      Q .normal { a with defers := { target := .collected D, args := #[] } :: a.defers } W) :
    (Code.rangeFunc g ps assign body).wp P Q a w := by
  refine wp_seq n h1 hg eg hseq hn0 hb0 hps
    (fun pre W => ((W.cell? ⟨Bn, 0, none⟩ = some (.int .i64 pre.length) ∧ W.frozen? ⟨Bn, 0, none⟩ = false) ∧ (∀ j, 1 ≤ j → j ≤ pre.length → stops j = false)) ∧ w.grownBy W (some Bn))
    (fun c pre W => ((W.cell? ⟨Bn, 0, none⟩ = some (.int .i64 pre.length) ∧ W.frozen? ⟨Bn, 0, none⟩ = false) ∧ (c = .exit id ∧ stops pre.length = true ∧ ∀ j, 1 ≤ j → j < pre.length → stops j = false)) ∧ w.grownBy W (some Bn))
    ?hI ?hIx hE ?h0 a₁ hassign ?body ?done ?stop
  case hI =>
    refine OwnFrom.and (fun pre A B row hs hg hr => ?_) (ownFrom_grown Bn)
    exact ⟨⟨cell_kept hs.1.1 hg (fun r e => (hr r e).2), (frozen_kept hs.1.1 hg (fun r e => (hr r e).2)).trans hs.1.2⟩, hs.2⟩
  case hIx =>
    intro c
    refine OwnFrom.and (fun pre A B row hs hg hr => ?_) (ownFrom_grown Bn)
    exact ⟨⟨cell_kept hs.1.1 hg (fun r e => (hr r e).2), (frozen_kept hs.1.1 hg (fun r e => (hr r e).2)).trans hs.1.2⟩, hs.2⟩
  case h0 => exact ⟨⟨⟨hc, hf⟩, fun j h1 h2 => by simp at h2; omega⟩, grown_refl _ _⟩
  case body =>
    intro l pre x rest W hxs hl hr hi he
    obtain ⟨⟨⟨hc1, hf1⟩, hst⟩, hgw⟩ := hi
    refine wpIn_mono (hbody l pre.length x W (by rw [hxs]; simp) hl he hgw hc1 hf1) ?_
    rintro e a' W' ⟨hg', hc', hf', hx⟩
    have hk : KeepsFrom w.heap.size W W' := KeepsFrom.of_grownBy hg' (fun j e => by cases e; exact hBw)
    have hb : Below n₀ W W' := (Below.refl _ _).grown hg' (Nat.le_trans hn0 hgw.size) (fun j e => by cases e; exact hB0)
    rcases hx with ⟨rfl, hs⟩ | ⟨rfl, hs⟩
    · refine ⟨hk, hb, ⟨⟨by rw [hc']; simp, hf'⟩, fun j h1 h2 => ?_⟩, grown_trans hgw hg'⟩
      simp at h2
      by_cases hj : j = pre.length + 1
      · rw [hj]; exact hs
      · exact hst j h1 (by omega)
    · refine ⟨hk, ⟨⟨by rw [hc']; simp, hf'⟩, rfl, by simpa using hs, fun j h1 h2 => ?_⟩, grown_trans hgw hg'⟩
      simp at h2
      exact hst j h1 (by omega)
  case done =>
    intro D W hD hi hdf
    exact hout D xs.length W (.inl ⟨rfl, hi.1.2⟩) hD hi.2 hi.1.1.1 hdf
  case stop =>
    intro D c pre x rest W hD hxs hi hdf
    obtain ⟨⟨⟨hc1, hf1⟩, rfl, hs, hst⟩, hgw⟩ := hi
    apply wp_exit
    exact hex _ _ (hout D (pre ++ [x]).length W (.inr ⟨by simp, by rw [hxs]; simp, hs, hst⟩) hD hgw hc1 hdf)
theorem Bel.putObj {w w' : World} (h : Bel w w') {D : Nat} (hD : w.heap.size ≤ D) (o : Obj) : Bel w (w'.putObj D o) := Below.grown h (grownBy_putObj' w' D o) h.size (fun k e => by cases e; exact hD)
theorem ite_max (x y : Int) : (if x < y then y else x) = max x y := by omega
theorem ite_min (x y : Int) : (if y < x then y else x) = min x y := by omega
theorem leavesM_collected {F : Fence} {n : Nat} {P : Program} {fn : Func} {tmps : Array Value} {R : Ending → World → Prop} {D : Nat} {ds : List Deferred} {w : World} (h : w.heap[D]? = some (.deferred (some [])))
    (h' : LeavesInM F n P fn tmps R ds .returning (w.putObj D (.deferred none))) : LeavesInM F n P fn tmps R ({ target := .collected D, args := #[] } :: ds) .returning w :=
  ⟨by simp, .inl ⟨_, _, rfl, run_takeDeferred h, h'⟩⟩
theorem leavesM_nil {F : Fence} {n : Nat} {P : Program} {fn : Func} {tmps : Array Value} {R : Ending → World → Prop} {v : Value} {w : World} (h : (results fn tmps).run P w = .ok v w) (h' : R (.returned v) w) :
    LeavesInM F n P fn tmps R [] .returning w := ⟨v, h, h'⟩
theorem putObj_deferred {w : World} {D D' : Nat} {o : Obj} (h : w.heap[D]? = some o) (hne : D ≠ D') (o' : Obj) : (w.putObj D' o').heap[D]? = some o := (World.putObj_heap_other hne).trans h
theorem cell_putDeferred {w : World} {D : Nat} {p : Addr} {v : Value} {l : List Deferred} (hc : w.cell? p = some v) (h : w.heap[D]? = some (.deferred (some l))) (o : Obj) : (w.putObj D o).cell? p = some v :=
  cell_kept hc (grownBy_putObj' w D o) (fun r e => by cases e; exact ⟨_, h, rfl⟩)
theorem heap_setCell_deferred {w : World} {D : Nat} {l : Option (List Deferred)} (p : Addr) (v : Value) (h : w.heap[D]? = some (.deferred l)) : (w.setCell p v).heap[D]? = some (.deferred l) :=
  (KeepsOthers.setCell w p v).same D _ h rfl
theorem Bel.deferred {w w' : World} {D : Nat} {o : Obj} (h : Bel w w') (hd : w.heap[D]? = some o) : w'.heap[D]? = some o := (h.block D (Array.getElem?_eq_some_iff.1 hd).1).trans hd
end Go.Proofs.YtiajggmnfaidjaaGreatDoor
