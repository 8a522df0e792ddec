/-
  The steps to which a cutover goes, as a list; the contract of the closure that cut.Goes hands back.
-/
import Derived.Test.YtpcgmghacalndaaCl
import Derived.Test.YtpcgmghacalndaaSeq
set_option linter.unusedVariables false
set_option linter.unusedSimpArgs false
namespace Go.Proofs.Ytpcgmghacalndaa
open Go.RowKit Go.Shelf

structure Fx where
  (go made opn drained failed settled waits dropped swapped clear late stop : Bool)
def Fx.cells (f : Fx) : List Value := [.bool f.go, .bool f.made, .bool f.opn, .bool f.drained, .bool f.failed, .bool f.settled, .bool f.waits, .bool f.dropped, .bool f.swapped, .bool f.clear, .bool f.late, .bool f.stop]
def nextF (s : Int) (f : Fx) : Int := nextS s f.go f.made f.opn f.drained f.failed f.settled f.waits f.dropped f.swapped f.clear f.late f.stop
/-- The step behind k facts. -/
def stAt (s : Int) (l : List Fx) : Nat → Int
  | 0 => s
  | k + 1 => match l[k]? with
    | some f => nextF (stAt s l k) f
    | none => stAt s l k
theorem stAt_range (s : Int) (h0 : 0 ≤ s) (h9 : s ≤ 9) (l : List Fx) (k : Nat) : 0 ≤ stAt s l k ∧ stAt s l k ≤ 9 := by
  induction k with
  | zero => exact ⟨h0, h9⟩
  | succ k ih =>
    unfold stAt
    split
    · exact nextS_range _ ih.1 ih.2 _ _ _ _ _ _ _ _ _ _ _ _
    · exact ih
theorem stAt_succ {s : Int} {l : List Fx} {k : Nat} {f : Fx} (h : l[k]? = some f) : stAt s l (k + 1) = nextF (stAt s l k) f := by
  rw [stAt, h]
/-- The first k pairs of a place and the step behind it. -/
def goesTo (s : Int) (l : List Fx) (k : Nat) : List (Nat × Int) := (List.range k).map fun i => (i, stAt s l (i + 1))
theorem goesTo_succ (s : Int) (l : List Fx) (k : Nat) : goesTo s l (k + 1) = goesTo s l k ++ [(k, stAt s l (k + 1))] := by simp [goesTo, List.range_succ]
theorem goesTo_split (s : Int) (l : List Fx) (k m : Nat) (h : k < m) : ∃ rest, goesTo s l m = goesTo s l k ++ (k, stAt s l (k + 1)) :: rest := by
  obtain ⟨d, rfl⟩ : ∃ d, m = k + 1 + d := ⟨m - (k + 1), by omega⟩
  induction d with
  | zero => exact ⟨[], by rw [Nat.add_zero, goesTo_succ]⟩
  | succ d ih =>
    obtain ⟨rest, hr⟩ := ih (by omega)
    exact ⟨rest ++ [(k + 1 + d, stAt s l (k + 1 + d + 1))], by rw [show k + 1 + (d + 1) = k + 1 + d + 1 from rfl, goesTo_succ, hr]; simp⟩

/-- A slice of facts, below block n₀. -/
def FactsAt (n₀ : Nat) (w : World) (A : Option Addr) (l : List Fx) : Prop :=
  l = [] ∨ ∃ b off, A = some ⟨b, off, none⟩ ∧ b < n₀ ∧ ∀ i f, l[i]? = some f → ∀ j v, f.cells[j]? = some v → w.cell? ⟨b, off + i * 12 + j, none⟩ = some v
theorem FactsAt.below {n₀ : Nat} {A B : World} (h : Below n₀ A B) {ad : Option Addr} {l : List Fx} (hf : FactsAt n₀ A ad l) : FactsAt n₀ B ad l := by
  rcases hf with h0 | ⟨b, off, e, hb, hc⟩
  · exact .inl h0
  · exact .inr ⟨b, off, e, hb, fun i f hi j v hj => (h.cell (p := ⟨b, _, none⟩) hb).trans (hc i f hi j v hj)⟩

attribute [local go_sem] Oper.semAt_some
set_option maxRecDepth 100000 in
set_option maxHeartbeats 2000000 in
theorem goes_seq (n : Nat) (hn : 2 ≤ n) (B1 B2 : Nat) (s : Int) (h0 : 0 ≤ s) (h9 : s ≤ 9) (A : Option Addr) (l : List Fx) (cap : Nat) (hl : l.length ≤ 60) (n₀ : Nat) (w : World) (hB1 : B1 < n₀) (hB2 : B2 < n₀) (hn0 : n₀ ≤ w.heap.size)
    (c1 : w.cell? ⟨B1, 0, none⟩ = some (.int .i64 s)) (c2 : w.cell? ⟨B2, 0, none⟩ = some (.slice A l.length cap)) (hf : FactsAt n₀ w A l) :
    SeqE Fence.wide n Try.prog 40 #[.pointer (some ⟨B1, 0, none⟩), .pointer (some ⟨B2, 0, none⟩)] (fun x : Nat × Int => #[.int .i64 (x.1 : Int), .int .i64 x.2]) (fun _ _ => True) n₀ (goesTo s l l.length) w := fun l' J Jx W hW hJ hY hJ0 => by
  have d1 := (hW.cell (p := ⟨B1, 0, none⟩) hB1).trans c1
  have d2 := (hW.cell (p := ⟨B2, 0, none⟩) hB2).trans c2
  have HF := Lib.hid (hf.below hW)
  clear hf c1 c2
  have HJ := Lib.hid hJ
  have HY := Lib.hid hY
  clear hJ hY
  refine callsIn_of_wp Try.func40 rfl trivial ?_ rfl
  simp only [Try.ntmps40, List.size_toArray, List.length_cons, List.length_nil, Nat.reduceAdd, Nat.reduceSub, Array.replicate_succ, Array.replicate_zero, List.push_toArray, List.append_toArray, List.nil_append, List.cons_append]
  gi_wp2
  refine wpIn_scope_wide ?_
  gi_wp2
  refine wpIn_label ?_
  gi_wp2
  gi_loopw [4, 12] (fun a i wr => ∃ k : Nat, k ≤ l.length ∧ i = .int .i64 k ∧ a = .int .i64 (stAt s l k) ∧ J (goesTo s l k) wr ∧ Below n₀ W wr) (fun _ i _ => l.length - (intOf i).toNat)
  case atStart => exact ⟨0, Nat.zero_le _, rfl, rfl, hJ0, Below.refl _ _⟩
  case round =>
    obtain ⟨k, hk, rfl, rfl, hJs, hbel⟩ := hrel
    by_cases hlt : k < l.length
    · obtain ⟨f, hfk⟩ : ∃ f, l[k]? = some f := ⟨_, List.getElem?_eq_getElem hlt⟩
      have hF' := FactsAt.below hbel HF.out
      rcases hF' with hnil | ⟨b, off, rfl, hb, hcell⟩
      · rw [hnil] at hlt; simp at hlt
      have hcell' := hcell k f hfk
      have c0 : wr.cell? ⟨b, off + k * 12, none⟩ = some (.bool f.go) := hcell' 0 _ rfl
      have c1 : wr.cell? ⟨b, off + k * 12 + 1, none⟩ = some (.bool f.made) := hcell' 1 _ rfl
      have c2 : wr.cell? ⟨b, off + k * 12 + 2, none⟩ = some (.bool f.opn) := hcell' 2 _ rfl
      have c3 : wr.cell? ⟨b, off + k * 12 + 3, none⟩ = some (.bool f.drained) := hcell' 3 _ rfl
      have c4 : wr.cell? ⟨b, off + k * 12 + 4, none⟩ = some (.bool f.failed) := hcell' 4 _ rfl
      have c5 : wr.cell? ⟨b, off + k * 12 + 5, none⟩ = some (.bool f.settled) := hcell' 5 _ rfl
      have c6 : wr.cell? ⟨b, off + k * 12 + 6, none⟩ = some (.bool f.waits) := hcell' 6 _ rfl
      have c7 : wr.cell? ⟨b, off + k * 12 + 7, none⟩ = some (.bool f.dropped) := hcell' 7 _ rfl
      have c8 : wr.cell? ⟨b, off + k * 12 + 8, none⟩ = some (.bool f.swapped) := hcell' 8 _ rfl
      have c9 : wr.cell? ⟨b, off + k * 12 + 9, none⟩ = some (.bool f.clear) := hcell' 9 _ rfl
      have c10 : wr.cell? ⟨b, off + k * 12 + 10, none⟩ = some (.bool f.late) := hcell' 10 _ rfl
      have c11 : wr.cell? ⟨b, off + k * 12 + 11, none⟩ = some (.bool f.stop) := hcell' 11 _ rfl
      clear hcell hcell'
      have hst := stAt_range s h0 h9 l k
      have hcall : ∀ w', Calls Try.prog 14 #[.int .i64 (stAt s l k), .agg #[.bool f.go, .bool f.made, .bool f.opn, .bool f.drained, .bool f.failed, .bool f.settled, .bool f.waits, .bool f.dropped, .bool f.swapped, .bool f.clear, .bool f.late, .bool f.stop]] w' fun e w'' => e = .returned (.tuple #[.int .i64 (stAt s l (k + 1)), .int .i64 0]) ∧ Bel w' w'' := fun w' => by
        rw [stAt_succ hfk]
        exact next_any _ hst.1 hst.2 _ _ _ _ _ _ _ _ _ _ _ _ w'
      have HCALL := Lib.hid hcall
      obtain ⟨rest, hsplit⟩ := goesTo_split s l k l.length hlt
      have HSPLIT := Lib.hid hsplit
      have HFK := Lib.hid hfk
      have HJS := Lib.hid hJs
      have hst' := stAt_range s h0 h9 l (k + 1)
      clear hcall hsplit hfk hJs hst
      gi_wp2_with fail
      refine ⟨trivial, fun _ => by omega, (callsIn_wide.2 (HCALL.out _)).mono ?_⟩
      rintro e1 w1 ⟨rfl, hb1⟩
      have hbw : Bel wr w1 := (Bel.alloc (Bel.refl _) _).then_ hb1
      obtain ⟨fn, tmps, assign, body, hy, hR⟩ := HY.out (goesTo s l k) (k, stAt s l (k + 1)) rest w1 HSPLIT.out (HJ.out _ _ _ HJS.out hbw) trivial
      dsimp only at hy
      gi_wp2
      refine ⟨fun _ => by omega, hR.mono ?_⟩
      rintro e W3 (⟨rfl, hJ3, hk3⟩ | ⟨rfl, hJx3⟩)
      · gi_wp2
        go_roundw
        case rel => exact ⟨k + 1, by omega, by go_num, rfl, by rw [goesTo_succ]; exact hJ3, (hbel.trans (Below.mono hbw (by have := hbel.size; have := hW.size; omega))).trans hk3⟩
        case measure => simp [intOf]; omega
      · gi_wp2
        rw [Exit.noGoto_normal]
        go_end0
        exact ⟨⟨_, rfl⟩, .inr ⟨_, _, rest, HSPLIT.out, hJx3⟩⟩
    · obtain rfl : k = l.length := by omega
      gi_wp2
      rw [Exit.noGoto_normal]
      go_end0
      exact ⟨⟨_, rfl⟩, .inl hJs⟩
end Go.Proofs.Ytpcgmghacalndaa
