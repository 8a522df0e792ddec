/-
  A range over a function whose handed arguments are known as they come, whose body counts its rounds in one boxed variable, and may leave behind a round: the law for the loop (wp_countr).
-/
import Derived.Test.YtkklmflclmgjeaaGreatDoorSeqr
import Derived.Test.YtkklmflclmgjeaaGreatDoorCount
set_option linter.unusedVariables false
set_option linter.unusedSimpArgs false
set_option linter.unusedVariables false
set_option linter.unusedSimpArgs false
namespace Go.Proofs.YtkklmflclmgjeaaGreatDoor
open Go.RowKit Go.Shelf

theorem wp_countr {P : Program} {α : Type} {g : Operand} {ps : Array Tmp} {assign body : Code} {Q : Exit → Act → World → Prop} {a : Act} {w : World} (n : Nat)
    (h1 : 1 ≤ n) {gf : Nat} {bd lb : Array Value} (hg : a.eval g = .func (.func gf) bd lb) (eg : ∀ args w, (callFunc gf args).run P w = .ok (.enter gf args) w)
    {E : α × Array Value → World → Prop} {n₀ : Nat} {xs : List α} {w0 : World} (hseq : SeqR Fence.wide (n - 1) P gf bd lb E n₀ xs w0) (hn0 : n₀ ≤ w.heap.size) (hb0 : Below n₀ w0 w) (hps : ∀ x vs W, E (x, vs) W → vs.size = ps.size) (hE : OwnFrom w.heap.size E)
    (Bn : Nat) (hB0 : n₀ ≤ Bn) (hBw : Bn < w.heap.size) (hc : w.cell? ⟨Bn, 0, none⟩ = some (.int .i64 0)) (hf : w.frozen? ⟨Bn, 0, none⟩ = false) (id : Nat) (stops : Nat → Bool)
    (hround : ∀ (l : Nat) (x : α) (vs : Array Value) (W : World), E (x, vs) W →
      assign.wpIn (Fence.wide.inRound l) (n - 1 - 1) P (Exit.then (fun a' Wa => Wa = W ∧ ∀ (l k : Nat) (Wb : World), xs[k]? = some x → w.heap.size ≤ l → E (x, vs) Wb → w.grownBy Wb (some Bn) → Wb.cell? ⟨Bn, 0, none⟩ = some (.int .i64 k) → Wb.frozen? ⟨Bn, 0, none⟩ = false →
        body.wpIn (Fence.wide.inRound l) (n - 1 - 1) P (fun e _ W' => Wb.grownBy W' (some Bn) ∧ W'.cell? ⟨Bn, 0, none⟩ = some (.int .i64 (k + 1)) ∧ W'.frozen? ⟨Bn, 0, none⟩ = false ∧ (e = .normal ∧ stops (k + 1) = false ∨ e = .exit id ∧ stops (k + 1) = true)) a' Wb) (fun _ _ _ => False)) { tmps := (ps.zip vs).foldl (fun t (p, v) => t.setIfInBounds p v) a.tmps, defers := [] } W)
    (hex : ∀ (a : Act) (W : World), Q .normal a W → Q (.exit id) a W)
    (hout : ∀ (D k : Nat) (W : World), Count stops xs.length k → w.heap.size ≤ D → w.grownBy W (some Bn) → W.cell? ⟨Bn, 0, none⟩ = some (.int .i64 k) → W.heap[D]? = some (.deferred (some [])) →
      Q .normal { a with defers := { target := .collected D, args := #[] } :: a.defers } W) :
    (Code.rangeFunc g ps assign body).wp P Q a w := by
  refine wp_seqr_round n h1 hg eg hseq hn0 hb0 hps
    (fun pre W => ((W.cell? ⟨Bn, 0, none⟩ = some (.int .i64 pre.length) ∧ W.frozen? ⟨Bn, 0, none⟩ = false) ∧ (∀ j, 1 ≤ j → j ≤ pre.length → stops j = false)) ∧ w.grownBy W (some Bn))
    (fun c pre W => ((W.cell? ⟨Bn, 0, none⟩ = some (.int .i64 pre.length) ∧ W.frozen? ⟨Bn, 0, none⟩ = false) ∧ (c = .exit id ∧ stops pre.length = true ∧ ∀ j, 1 ≤ j → j < pre.length → stops j = false)) ∧ w.grownBy W (some Bn))
    ?hI ?hIx hE ?h0 ?round ?done ?stop
  case hI =>
    refine OwnFrom.and (fun pre A B row hs hg hr => ?_) (ownFrom_grown Bn)
    exact ⟨⟨cell_kept hs.1.1 hg (fun r e => (hr r e).2), (frozen_kept hs.1.1 hg (fun r e => (hr r e).2)).trans hs.1.2⟩, hs.2⟩
  case hIx =>
    intro c
    refine OwnFrom.and (fun pre A B row hs hg hr => ?_) (ownFrom_grown Bn)
    exact ⟨⟨cell_kept hs.1.1 hg (fun r e => (hr r e).2), (frozen_kept hs.1.1 hg (fun r e => (hr r e).2)).trans hs.1.2⟩, hs.2⟩
  case h0 => exact ⟨⟨⟨hc, hf⟩, fun j h1 h2 => by simp at h2; omega⟩, grown_refl _ _⟩
  case round =>
    intro l x vs W he
    refine wpIn_mono (hround l x vs W he) ?_
    intro e a' Wa hp
    cases e with
    | normal =>
      obtain ⟨rfl, hx⟩ := hp
      refine ⟨rfl, fun l pre rest Wb hxs hl hr hi hEb => ?_⟩
      obtain ⟨⟨⟨hc1, hf1⟩, hst⟩, hgw⟩ := hi
      refine wpIn_mono (hx l pre.length Wb (by rw [hxs]; simp) hl hEb hgw hc1 hf1) ?_
      rintro e a'' W' ⟨hg', hc', hf', hx⟩
      have hk : KeepsFrom w.heap.size Wb W' := KeepsFrom.of_grownBy hg' (fun j e => by cases e; exact hBw)
      have hb : Own n₀ (w.heap.size + 2) Wb W' := ⟨(Below.refl _ _).grown hg' (Nat.le_trans hn0 hgw.size) (fun j e => by cases e; exact hB0), fun j h1 h2 => hg'.block j h2 (fun e => by cases e; omega)⟩
      rcases hx with ⟨rfl, hs⟩ | ⟨rfl, hs⟩
      · refine ⟨hk, hb, ⟨⟨by rw [hc']; simp, hf'⟩, fun j h1 h2 => ?_⟩, grown_trans hgw hg'⟩
        simp at h2
        by_cases hj : j = pre.length + 1
        · rw [hj]; exact hs
        · exact hst j h1 (by omega)
      · refine ⟨hk, ⟨⟨by rw [hc']; simp, hf'⟩, rfl, by simpa using hs, fun j h1 h2 => ?_⟩, grown_trans hgw hg'⟩
        simp at h2
        exact hst j h1 (by omega)
    | ret => exact hp
    | exit id => exact hp
    | goto t => exact hp
    | panic ch => exact hp
    | outgrown => exact hp
  case done =>
    intro D W hD hi hdf
    exact hout D xs.length W (.inl ⟨rfl, hi.1.2⟩) hD hi.2 hi.1.1.1 hdf
  case stop =>
    intro D c pre x rest W hD hxs hi hdf
    obtain ⟨⟨⟨hc1, hf1⟩, rfl, hs, hst⟩, hgw⟩ := hi
    apply wp_exit
    exact hex _ _ (hout D (pre ++ [x]).length W (.inr ⟨by simp, by rw [hxs]; simp, hs, hst⟩) hD hgw hc1 hdf)
end Go.Proofs.YtkklmflclmgjeaaGreatDoor
