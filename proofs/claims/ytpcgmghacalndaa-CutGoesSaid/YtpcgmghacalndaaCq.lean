/-
  The law CutGoes's walk, where s is a step.
-/
import Derived.Test.YtpcgmghacalndaaCp
import Derived.Test.YtpcgmghacalndaaCount
import Derived.Maps.AppendAt
set_option linter.unusedVariables false
set_option linter.unusedSimpArgs false
set_option linter.unusedVariables false
set_option linter.unusedSimpArgs false
namespace Go.Proofs.Ytpcgmghacalndaa
open Go.RowKit Go.Shelf
attribute [local go_sem] Oper.semAt_some

theorem ownsRow_bel {w w' : World} {base : Nat} {e : TypeId} {size : Nat} {v : Value} {n : Nat} {xs : List Value} (h : w.ownsRow base e size v n xs) (hb : Bel w w') : w'.ownsRow base e size v n xs := by
  refine ⟨h.1, ?_⟩
  rcases h.2 with h2 | ⟨g, cap, cur, hv, hg, hh, r⟩
  · exact .inl h2
  · exact .inr ⟨g, cap, cur, hv, hg, (hb.block g (Array.getElem?_eq_some_iff.1 hh).1).trans hh, r⟩
theorem goes_fn (s : Int) (A : Option Addr) (n cap : Nat) (w : World) : Calls Try.prog 23 #[.int .i64 s, .slice A n cap] w fun e w' => e = .returned (.func (.func 40) #[] #[.pointer (some ⟨w.heap.size, 0, none⟩), .pointer (some ⟨w.heap.size + 1, 0, none⟩)]) ∧ (w.alloc (.cells #[.int .i64 s] 38)).alloc (.cells #[.slice A n cap] 51) = w' := by
  go_enter Try.func23, Try.ntmps23
  go_wp2
  go_ret
  exact ⟨rfl, rfl⟩
theorem info38 : (Try.prog.info? 38).map (fun i => (i.zero, i.size, i.bytes)) = some (some (.int .i64 0), 1, 8) := by kernel_rfl
theorem rnext_any (s : Int) (h0 : 0 ≤ s) (h9 : s ≤ 9) (go made opn drained failed settled waits dropped swapped clear late stop : Bool) (w : World) : Calls Try.prog 15 #[.int .i64 s, .agg #[.bool go, .bool made, .bool opn, .bool drained, .bool failed, .bool settled, .bool waits, .bool dropped, .bool swapped, .bool clear, .bool late, .bool stop]] w fun e w' => e = .returned (.tuple #[.int .i64 (nextS s go made opn drained failed settled waits dropped swapped clear late stop), .int .i64 0]) ∧ Bel w w' := by
  have h' : s = 0 ∨ s = 1 ∨ s = 2 ∨ s = 3 ∨ s = 4 ∨ s = 5 ∨ s = 6 ∨ s = 7 ∨ s = 8 ∨ s = 9 := by omega
  rcases h' with rfl | rfl | rfl | rfl | rfl | rfl | rfl | rfl | rfl | rfl
  · exact rnext0 go made opn drained failed settled waits dropped swapped clear late stop w
  · exact rnext1 go made opn drained failed settled waits dropped swapped clear late stop w
  · exact rnext2 go made opn drained failed settled waits dropped swapped clear late stop w
  · exact rnext3 go made opn drained failed settled waits dropped swapped clear late stop w
  · exact rnext4 go made opn drained failed settled waits dropped swapped clear late stop w
  · exact rnext5 go made opn drained failed settled waits dropped swapped clear late stop w
  · exact rnext6 go made opn drained failed settled waits dropped swapped clear late stop w
  · exact rnext7 go made opn drained failed settled waits dropped swapped clear late stop w
  · exact rnext8 go made opn drained failed settled waits dropped swapped clear late stop w
  · exact rnext9 go made opn drained failed settled waits dropped swapped clear late stop w

theorem ownsRow_set_other {w : World} {base : Nat} {e : TypeId} {size g n cap : Nat} {xs : List Value} (h : w.ownsRow base e size (.slice (some ⟨g, 0, none⟩) n cap) n xs) {p : Addr} (hp : p.block ≠ g) (u : Value) : (w.setCell p u).ownsRow base e size (.slice (some ⟨g, 0, none⟩) n cap) n xs := by
  refine ⟨h.1, ?_⟩
  rcases h.2 with ⟨h2, _⟩ | ⟨g', cap', cur, hv, hg, hh, r⟩
  · simp at h2
  · simp only [Value.slice.injEq, Option.some.injEq, Addr.mk.injEq, and_true, true_and] at hv
    obtain ⟨rfl, rfl⟩ := hv
    exact .inr ⟨g, cap, cur, rfl, hg, (Below.heap_setCell _ _ _ _ (fun e => hp e.symm)).trans hh, r⟩
theorem eql_nilFunc (f : Fn) (a b : Array Value) (w : World) : (binOp .eql 55 (.func f a b) .nilFunc).run Try.prog w = .ok (.bool false) w := by kernel_rfl
/-- The values of what is wanted. -/
def wantTo (s : Int) (l : List Fx) (k : Nat) : List Value := (List.range k).map fun i => .int .i64 (stAt s l (i + 1))
theorem wantTo_succ (s : Int) (l : List Fx) (k : Nat) : wantTo s l (k + 1) = wantTo s l k ++ [.int .i64 (stAt s l (k + 1))] := by simp [wantTo, List.range_succ]

theorem goesTo_len (s : Int) (l : List Fx) (k : Nat) : (goesTo s l k).length = k := by simp [goesTo]
theorem goesTo_at {s : Int} {l : List Fx} {m k : Nat} {x : Nat × Int} {rest : List (Nat × Int)} (h : goesTo s l m = goesTo s l k ++ x :: rest) : x = (k, stAt s l (k + 1)) ∧ k < m := by
  have hlen := congrArg List.length h
  simp [goesTo_len] at hlen
  have hk : k < m := by omega
  have h1 : (goesTo s l m)[k]? = some x := by
    rw [h, List.getElem?_append_right (by simp [goesTo_len])]
    simp [goesTo_len]
  have h2 : (goesTo s l m)[k]? = some (k, stAt s l (k + 1)) := by simp [goesTo, hk]
  exact ⟨Option.some.inj (h1.symm.trans h2), hk⟩
theorem goesTo_get {s : Int} {l : List Fx} {m k : Nat} {x : Nat × Int} (h : (goesTo s l m)[k]? = some x) : x = (k, stAt s l (k + 1)) ∧ k < m := by
  have hk : k < m := by have := (List.getElem?_eq_some_iff.1 h).1; simpa [goesTo_len] using this
  have h2 : (goesTo s l m)[k]? = some (k, stAt s l (k + 1)) := by simp [goesTo, hk]
  exact ⟨Option.some.inj (h.symm.trans h2), hk⟩
theorem Bel.of_alloc' {w W : World} {o : Obj} {b : Nat} (h : (w.alloc o).grownBy W (some b)) (hb : w.heap.size ≤ b) : Bel w W :=
  (((Below.refl _ w).alloc (Nat.le_refl _) o)).grown h (by simp) (fun j e => by cases e; exact hb)
theorem Bel.of_alloc {w W : World} {o : Obj} (h : (w.alloc o).grownBy W (some w.heap.size)) : Bel w W :=
  (((Below.refl _ w).alloc (Nat.le_refl _) o)).grown h (by simp) (fun j e => by cases e; exact Nat.le_refl _)
set_option maxRecDepth 100000 in
set_option maxHeartbeats 2000000 in
theorem goes_yes (s : Int) (h0 : 0 ≤ s) (h9 : s ≤ 9) (A : Option Addr) (l : List Fx) (cap : Nat) (many : Int) (hl : l.length ≤ 60) (w : World) (hf : FactsAt w.heap.size w A l) :
    Calls Try.prog 6 #[.int .i64 s, .slice A l.length cap, .int .i64 many] w fun e w' => e = .returned (.bool true) ∧ Bel w w' := by
  obtain ⟨i0, hi, hz0, hz1, hz2⟩ := info_parts info38
  have hnf := eql_nilFunc
  have HF := Lib.hid hf
  clear hf
  refine calls_of_wp_marks 6 Try.func6 rfl ?_
  simp only [Try.ntmps6, List.size_toArray, List.length_cons, List.length_nil, Nat.reduceAdd, Nat.reduceSub, Array.replicate_succ, Array.replicate_zero, List.push_toArray, List.append_toArray, List.nil_append, List.cons_append]
  go_wp2
  go_loopw [8, 9] (fun now i wr => ∃ (k : Nat) (v : Value), k ≤ l.length ∧ i = .int .i64 k ∧ now = .int .i64 (stAt s l k) ∧ wr.cell? ⟨w.heap.size, 0, none⟩ = some (.int .i64 many) ∧ wr.cell? ⟨w.heap.size + 1, 0, none⟩ = some (.bool false) ∧ wr.frozen? ⟨w.heap.size + 1, 0, none⟩ = false ∧
      wr.cell? ⟨w.heap.size + 1 + 1, 0, none⟩ = some v ∧ wr.frozen? ⟨w.heap.size + 1 + 1, 0, none⟩ = false ∧ wr.ownsRow (w.heap.size + 3) 38 1 v k (wantTo s l k) ∧ Bel w wr ∧ w.heap.size + 3 ≤ wr.heap.size) (fun _ i _ => l.length - (intOf i).toNat)
  case atStart => exact ⟨0, _, Nat.zero_le _, rfl, rfl, by go_simp, by go_simp, by go_simp, by go_simp, by go_simp, World.ownsRow_nil _ _ _ _, by (repeat (first | exact Below.refl _ _ | assumption | exact Bel.refl _ | refine Bel.alloc ?_ _ | refine Bel.drew ?_ | refine Bel.drewN ?_ _ | refine Bel.then_ ?_ (by assumption) | refine Bel.setCell ?_ (by first | (simp; done) | (simp; omega)) _)), by simp⟩
  case round =>
    obtain ⟨k, v, hk, rfl, rfl, ca, cb, fb, cc, fc, hown, hbel, hsz⟩ := hrel
    have HBEL := Lib.hid hbel
    by_cases hlt : k < l.length
    · obtain ⟨f, hfk⟩ : ∃ f, l[k]? = some f := ⟨_, List.getElem?_eq_getElem hlt⟩
      have hF' := FactsAt.below hbel HF.out
      rcases hF' with hnil | ⟨b, off, rfl, hb, hcell⟩
      · rw [hnil] at hlt; simp at hlt
      have hcell' := hcell k f hfk
      have c0 : wr.cell? ⟨b, off + k * 12, none⟩ = some (.bool f.go) := hcell' 0 _ rfl
      have c1 : wr.cell? ⟨b, off + k * 12 + 1, none⟩ = some (.bool f.made) := hcell' 1 _ rfl
      have c2 : wr.cell? ⟨b, off + k * 12 + 2, none⟩ = some (.bool f.opn) := hcell' 2 _ rfl
      have c3 : wr.cell? ⟨b, off + k * 12 + 3, none⟩ = some (.bool f.drained) := hcell' 3 _ rfl
      have c4 : wr.cell? ⟨b, off + k * 12 + 4, none⟩ = some (.bool f.failed) := hcell' 4 _ rfl
      have c5 : wr.cell? ⟨b, off + k * 12 + 5, none⟩ = some (.bool f.settled) := hcell' 5 _ rfl
      have c6 : wr.cell? ⟨b, off + k * 12 + 6, none⟩ = some (.bool f.waits) := hcell' 6 _ rfl
      have c7 : wr.cell? ⟨b, off + k * 12 + 7, none⟩ = some (.bool f.dropped) := hcell' 7 _ rfl
      have c8 : wr.cell? ⟨b, off + k * 12 + 8, none⟩ = some (.bool f.swapped) := hcell' 8 _ rfl
      have c9 : wr.cell? ⟨b, off + k * 12 + 9, none⟩ = some (.bool f.clear) := hcell' 9 _ rfl
      have c10 : wr.cell? ⟨b, off + k * 12 + 10, none⟩ = some (.bool f.late) := hcell' 10 _ rfl
      have c11 : wr.cell? ⟨b, off + k * 12 + 11, none⟩ = some (.bool f.stop) := hcell' 11 _ rfl
      have hst := stAt_range s h0 h9 l k
      have hcall : ∀ w', Calls Try.prog 15 #[.int .i64 (stAt s l k), .agg #[.bool f.go, .bool f.made, .bool f.opn, .bool f.drained, .bool f.failed, .bool f.settled, .bool f.waits, .bool f.dropped, .bool f.swapped, .bool f.clear, .bool f.late, .bool f.stop]] w' fun e w'' => e = .returned (.tuple #[.int .i64 (stAt s l (k + 1)), .int .i64 0]) ∧ Bel w' w'' := fun w' => by
        rw [stAt_succ hfk]
        exact rnext_any _ hst.1 hst.2 _ _ _ _ _ _ _ _ _ _ _ _ w'
      have HCALL := Lib.hid hcall
      clear hcall hfk hcell hcell' hst
      go_wp2_with (go_at_call 22; go_in)
      refine (HCALL.out _).mono ?_
      rintro e1 w1 ⟨rfl, hb1⟩
      have ca1 := (Below.cell hb1 (p := ⟨w.heap.size, 0, none⟩) (by show w.heap.size < _; omega)).trans ca
      have cb1 := (Below.cell hb1 (p := ⟨w.heap.size + 1, 0, none⟩) (by show w.heap.size + 1 < _; omega)).trans cb
      have cc1 := (Below.cell hb1 (p := ⟨w.heap.size + 1 + 1, 0, none⟩) (by show w.heap.size + 1 + 1 < _; omega)).trans cc
      have fb1 := (Below.frozen hb1 (p := ⟨w.heap.size + 1, 0, none⟩) (by show w.heap.size + 1 < _; omega)).trans fb
      have fc1 := (Below.frozen hb1 (p := ⟨w.heap.size + 1 + 1, 0, none⟩) (by show w.heap.size + 1 + 1 < _; omega)).trans fc
      have hown1 := ownsRow_bel hown hb1
      have hsz1 : w.heap.size + 3 ≤ w1.heap.size := Nat.le_trans hsz hb1.size
      have hbel1 : Bel w w1 := hbel.then_ hb1
      clear ca cb cc fb fc hown hsz hb1 HBEL
      go_wp2_with (at_builtin; refine wpList_append_own _ rfl (.tmp 39) (.tmp 41) 53 rfl (w.heap.size + 3) 38 i0 (.int .i64 0) 1 8 Try.underlying53 hi hz0 hz1 hz2 rfl (by decide) v k (wantTo s l k) rfl (hown1.alloc _) ⟨w1.heap.size, 0, none⟩ 1 1 [.int .i64 (stAt s l (k + 1))] rfl rfl ?c1 ?c2 ?c3 ?c4 ?c5 ?_)
      case c1 => exact cell_one_new _ _ _
      case c2 => simp [Value.oneCell']
      case c3 => unfold maxLen; omega
      case c4 => omega
      case c5 => simp; omega
      intro v' w2 hown2 hgrow hne
      have hkc : ∀ o b', b' < w.heap.size + 3 → w2.cell? ⟨b', o, none⟩ = w1.cell? ⟨b', o, none⟩ := fun o b' hb' =>
        (World.cell?_of_block (hgrow.block b' (by simp; omega) (fun e => by have := (hown1.lt b' e.symm).1; omega))).trans (World.cell?_of_block (Below.heap_alloc w1 _ b' (by omega)))
      have hkf : ∀ o b', b' < w.heap.size + 3 → w2.frozen? ⟨b', o, none⟩ = w1.frozen? ⟨b', o, none⟩ := fun o b' hb' =>
        (World.frozen?_of_block (hgrow.block b' (by simp; omega) (fun e => by have := (hown1.lt b' e.symm).1; omega))).trans (World.frozen?_of_block (Below.heap_alloc w1 _ b' (by omega)))
      have hbel2 : Bel w w2 := Below.grown (hbel1.alloc _) hgrow (by simp; omega) (fun j e => by have := (hown1.lt j e).1; omega)
      have hsz2 : w.heap.size + 3 ≤ w2.heap.size := by have := hgrow.size; simp at this; omega
      have ca2 : w2.cell? ⟨w.heap.size, 0, none⟩ = some (.int .i64 many) := (hkc 0 _ (by omega)).trans ca1
      have cb2 : w2.cell? ⟨w.heap.size + 1, 0, none⟩ = some (.bool false) := (hkc 0 _ (by omega)).trans cb1
      have cc2 : w2.cell? ⟨w.heap.size + 1 + 1, 0, none⟩ = some v := (hkc 0 _ (by omega)).trans cc1
      have fb2 : w2.frozen? ⟨w.heap.size + 1, 0, none⟩ = false := (hkf 0 _ (by omega)).trans fb1
      have fc2 : w2.frozen? ⟨w.heap.size + 1 + 1, 0, none⟩ = false := (hkf 0 _ (by omega)).trans fc1
      rw [← wantTo_succ] at hown2
      obtain ⟨g, cap', rfl⟩ := ownsRow_succ hown2
      have hg3 : w.heap.size + 3 ≤ g := (hown2.lt g rfl).1
      have HOWN := Lib.hid hown2
      clear hkc hkf hgrow hne ca1 cb1 cc1 fb1 fc1 hown1 hown2 hsz1
      go_wp2
      go_roundw
      case rel => exact ⟨k + 1, _, by omega, by go_num, rfl, by go_simp, by go_simp, by go_simp, by go_simp, by go_simp, ownsRow_set_other HOWN.out (by show w.heap.size + 1 + 1 ≠ _; omega) _, Bel.setCell hbel2 (by simp; omega) _, by simp; omega⟩
      case measure => simp [intOf]; omega
    · obtain rfl : k = l.length := by omega
      go_wp2_with (go_at_call 23; refine (goes_fn _ _ _ _ _).mono ?_; rintro e1 w1 ⟨rfl, rfl⟩)
      obtain ⟨Ag, cg, rfl, hwant⟩ : ∃ Ag cg, v = .slice Ag l.length cg ∧ ∀ j, j < l.length → ∃ g, Ag = some ⟨g, 0, none⟩ ∧ g < wr.heap.size ∧ wr.cell? ⟨g, j, none⟩ = some (.int .i64 (stAt s l (j + 1))) := by
        rcases hown.2 with ⟨hv, hn⟩ | ⟨g, cap', cur, hv, _, hh, _, _, _, ht⟩
        · exact ⟨none, 0, by rw [hv, hn], fun j hj => by omega⟩
        · refine ⟨some ⟨g, 0, none⟩, cap', hv, fun j hj => ⟨g, rfl, (Array.getElem?_eq_some_iff.1 hh).1, ?_⟩⟩
          subst hv
          rw [World.ownsRow.cellAt hown j (by omega)]
          simp [wantTo, hj]
      have HWANT := Lib.hid hwant
      clear hwant hown
      refine wp_loop_rounds 3 ?_
      rw [rounds_succ]
      go_wp2_with fail
      -- the first turn
      obtain ⟨Wb, hWb⟩ : ∃ Wb, Wb = (((wr.alloc (.cells #[.int .i64 s] 38)).alloc (.cells #[.slice A l.length cap] 51)).alloc (.cells #[.int .i64 0] 3)) := ⟨_, rfl⟩
      rw [← hWb]
      have hWs : Wb.heap.size = wr.heap.size + 3 := by rw [hWb]; simp
      have hbb : Bel wr Wb := by rw [hWb]; exact ((Bel.refl wr).alloc _).alloc _ |>.alloc _
      have e1 := hbb.c ca
      have e2 := hbb.c cc
      have eB := hbb.c cb
      have gB := hbb.f cb fb
      have e3 : Wb.cell? ⟨wr.heap.size, 0, none⟩ = some (.int .i64 s) := by rw [hWb]; go_simp
      have e4 : Wb.cell? ⟨wr.heap.size + 1, 0, none⟩ = some (.slice A l.length cap) := by rw [hWb]; go_simp
      have e5 : Wb.cell? ⟨wr.heap.size + 1 + 1, 0, none⟩ = some (.int .i64 0) := by rw [hWb]; go_simp
      have hFb : FactsAt (wr.heap.size + 1 + 1 + 1) Wb A l := by
        have := FactsAt.below (hbel.trans (Below.mono hbb hbel.size)) HF.out
        rcases this with h | ⟨b, off, h1, h2, h3⟩
        · exact .inl h
        · exact .inr ⟨b, off, h1, by have := hbel.size; omega, h3⟩
      have HFB := Lib.hid hFb
      have HBB := Lib.hid hbb
      have HBW : Hid (Bel w Wb) := hbel.then_ hbb
      clear hFb hbb hWb hbel HBEL
      refine wp_count 6 (by omega) (gf := 40) (lb := #[.pointer (some ⟨wr.heap.size, 0, none⟩), .pointer (some ⟨wr.heap.size + 1, 0, none⟩)]) rfl (enters_of Try.func40 (by kernel_rfl) rfl)
        (goes_seq 5 (by omega) wr.heap.size (wr.heap.size + 1) s h0 h9 A l cap hl (wr.heap.size + 1 + 1 + 1) Wb (by omega) (by omega) (by omega) e3 e4 HFB.out) (by simp; omega) ((Below.refl _ _).alloc (by omega) _) (fun _ => rfl) (fun _ _ _ _ hs _ _ => hs)
        (wr.heap.size + 1 + 1 + 1) (Nat.le_refl _) (by simp; omega) (by rw [show wr.heap.size + 1 + 1 + 1 = Wb.heap.size by omega]; go_simp) (by rw [show wr.heap.size + 1 + 1 + 1 = Wb.heap.size by omega]; go_simp) 4 (fun j => decide ((j : Int) ≥ many)) ?F ?assign ?body (fun _ _ h => h) ?out
      case assign =>
        intro l' x W K hK
        gi_wp2
        exact hK
      case body =>
        intro l' k x W hx hl' _ hgW hcn hfn
        obtain ⟨rfl, hk⟩ := goesTo_get hx
        obtain ⟨g, rfl, hgl, hwc⟩ := HWANT.out k hk
        have hbW : Bel Wb W := Bel.of_alloc' hgW (by omega)
        clear hWs
        have d1 := hbW.c e1
        have d2 := hbW.c e2
        have d3 := hbW.c (HBB.out.c hwc)
        have d4 := hbW.c e5
        have hst' := stAt_range s h0 h9 l (k + 1)
        clear hgW hbW
        gi_wp2
        all_goals exact grown_setCell _ _ _
      case out =>
        intro D k W hcnt hD hgW hcn hdf
        have hk := hcnt.upto
        rw [goesTo_len] at hk
        have hbW : Bel Wb W := Bel.of_alloc' hgW (by omega)
        have hWsz : wr.heap.size + 3 ≤ W.heap.size := by have := hbW.size; omega
        clear hWs
        have d1 := hbW.c e1
        have d2 := hbW.c e2
        have d4 := hbW.c e5
        have dB := hbW.c eB
        have fB := hbW.f eB gB
        have d6 := hbW.c e3
        have d7 := hbW.c e4
        have HDF := Lib.hid hdf
        have HBb := Lib.hid hbW
        have hk1 : (k : Int) ≤ l.length := by omega
        have hk2 : (k : Int) ≤ max 1 many := by omega
        have hk3 : (l.length : Int) ≤ k ∨ max 1 many ≤ (k : Int) := by omega
        clear hgW hbW hcnt hk hdf e1 e2 e3 e4 e5 eB gB ca cb cc fb fc
        have hmx := ite_max
        have hmn := ite_min
        have hb1 : ((k : Int) != min (l.length : Int) (max 1 many)) = false := by rw [bne_eq_false_iff_eq]; omega
        have hb2 : ((k : Int) == min (l.length : Int) (max 1 many)) = true := by rw [beq_iff_eq]; omega
        go_wp2_with fail
        all_goals
          clear hmx hmn hb1 hb2 hk1 hk2 hk3 hcn
          rw [rounds_succ]
          go_wp2_with fail
          obtain ⟨Wc, hWc⟩ : ∃ Wc, Wc = W.alloc (.cells #[.int .i64 1] 3) := ⟨_, rfl⟩
          rw [← hWc]
          have hWs : Wc.heap.size = W.heap.size + 1 := by rw [hWc]; simp
          have hbb : Bel W Wc := by rw [hWc]; exact (Bel.refl W).alloc _
          have e1 := hbb.c d1
          have e2 := hbb.c d2
          have eB := hbb.c dB
          have gB := hbb.f dB fB
          have e3 := hbb.c d6
          have e4 := hbb.c d7
          have e5 : Wc.cell? ⟨W.heap.size, 0, none⟩ = some (.int .i64 1) := by rw [hWc]; go_simp
          have hbWc : Bel Wb Wc := HBb.out.then_ hbb
          have hFc : FactsAt (W.heap.size + 1) Wc A l := by
            rcases HFB.out with h | ⟨b, off, h1, h2, h3⟩
            · exact .inl h
            · exact .inr ⟨b, off, h1, by omega, fun i f hi j v hj => hbWc.c (h3 i f hi j v hj)⟩
          have HFC := Lib.hid hFc
          have HBC := Lib.hid (HBB.out.then_ hbWc)
          have HBWC := Lib.hid (HBW.out.then_ hbWc)
          have HDC : Hid (Wc.heap[D]? = some (.deferred (some []))) := (hbb.block D (Array.getElem?_eq_some_iff.1 HDF.out).1).trans HDF.out
          clear hFc hbb hWc hbWc d1 d2 dB fB d6 d7 d4
          refine wp_count 6 (by omega) (gf := 40) (lb := #[.pointer (some ⟨wr.heap.size, 0, none⟩), .pointer (some ⟨wr.heap.size + 1, 0, none⟩)]) rfl (enters_of Try.func40 (by kernel_rfl) rfl)
            (goes_seq 5 (by omega) wr.heap.size (wr.heap.size + 1) s h0 h9 A l cap hl (W.heap.size + 1) Wc (by omega) (by omega) (by omega) e3 e4 HFC.out) (by simp; omega) ((Below.refl _ _).alloc (by omega) _) (fun _ => rfl) (fun _ _ _ _ hs _ _ => hs)
            (W.heap.size + 1) (Nat.le_refl _) (by simp; omega) (by rw [show W.heap.size + 1 = Wc.heap.size by omega]; go_simp) (by rw [show W.heap.size + 1 = Wc.heap.size by omega]; go_simp) 4 (fun _ => false) ?F2 ?assign ?body (fun _ _ h => h) ?out
          case assign =>
            intro l' x W K hK
            gi_wp2
            exact hK
          case body =>
            intro l' k x W' hx hl' _ hgW hcn hfn
            obtain ⟨rfl, hk⟩ := goesTo_get hx
            obtain ⟨g, rfl, hgl, hwc⟩ := HWANT.out k hk
            have hbW : Bel Wc W' := Bel.of_alloc' hgW (by omega)
            clear hWs
            have d1 := hbW.c e1
            have d2 := hbW.c e2
            have d3 := hbW.c (HBC.out.c hwc)
            have d4 := hbW.c e5
            have hst' := stAt_range s h0 h9 l (k + 1)
            clear hgW hbW
            gi_wp2
            all_goals exact grown_setCell _ _ _
          case out =>
            intro D' k' W' hcnt hD' hgW hcn hdf
            have hk := hcnt.all
            rw [goesTo_len] at hk
            obtain rfl : k' = l.length := hk
            have hbW : Bel Wc W' := Bel.of_alloc' hgW (by omega)
            clear hWs
            have d1 := hbW.c e1
            have d2 := hbW.c e2
            have d4 := hbW.c e5
            have dB := hbW.c eB
            have fB := hbW.f eB gB
            have HDF1 : Hid (W'.heap[D]? = some (.deferred (some []))) := (hbW.block D (Array.getElem?_eq_some_iff.1 HDC.out).1).trans HDC.out
            have HDF2 := Lib.hid hdf
            have HB2 := Lib.hid (HBWC.out.then_ hbW)
            clear hgW hbW hcnt hdf e1 e2 e3 e4 e5 eB gB
            go_wp2_with fail
            all_goals
              rw [rounds_succ]
              go_wp2_with fail
              refine (cworks_any _).mono ?_
              rintro e w99 ⟨rfl, hb99⟩
              have hba : Bel W' (W'.alloc (.cells #[.int .i64 2] 3)) := (Bel.refl _).alloc _
              have r1 := hb99.c (hba.c dB)
              have r2 := hb99.f (hba.c dB) (hba.f dB fB)
              have q1 : w99.heap[D]? = some (.deferred (some [])) := hb99.deferred ((Bel.alloc (Bel.refl _) _).deferred HDF1.out)
              have q2 : w99.heap[D']? = some (.deferred (some [])) := hb99.deferred ((Bel.alloc (Bel.refl _) _).deferred HDF2.out)
              have q3 : Bel w w99 := (HB2.out.alloc _).then_ hb99
              have hne : D ≠ D' := fun e => by have := (Array.getElem?_eq_some_iff.1 HDC.out).1; simp at hD'; omega
              have hDw : w.heap.size ≤ D := by simp at hD; have := HBW.out.size; omega
              have hDw' : w.heap.size ≤ D' := by simp at hD'; have := HBWC.out.size; omega
              clear hba hnf
              go_wp2
              refine leavesM_collected (D := D') (heap_setCell_deferred _ _ q2) (leavesM_collected (D := D) (putObj_deferred (heap_setCell_deferred _ _ q1) hne _) (leavesM_nil ?_ ⟨rfl, ?_⟩))
              · have hc : (w99.setCell ⟨w.heap.size + 1, 0, none⟩ (.bool true)).cell? ⟨w.heap.size + 1, 0, none⟩ = some (.bool true) := by go_simp
                have hc2 := cell_putDeferred (cell_putDeferred hc (heap_setCell_deferred ⟨w.heap.size + 1, 0, none⟩ (.bool true) q2) (.deferred none)) (putObj_deferred (heap_setCell_deferred ⟨w.heap.size + 1, 0, none⟩ (.bool true) q1) hne (.deferred none)) (.deferred none)
                simp [results, Try.results6, go_sem, hc2]
              · exact ((q3.setCell (by simp) _).putObj hDw' _).putObj hDw _
end Go.Proofs.Ytpcgmghacalndaa
