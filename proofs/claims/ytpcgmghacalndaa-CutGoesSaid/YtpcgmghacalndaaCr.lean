/-
  The law CutGoes's walk, where s is no step; and where there are too many facts.
-/
import Derived.Test.YtpcgmghacalndaaCq
import Derived.Test.YtpcgmghacalndaaCi
set_option linter.unusedVariables false
set_option linter.unusedSimpArgs false
set_option linter.unusedVariables false
set_option linter.unusedSimpArgs false
namespace Go.Proofs.Ytpcgmghacalndaa
open Go.RowKit Go.Shelf
attribute [local go_sem] Oper.semAt_some
set_option maxRecDepth 100000 in
set_option maxHeartbeats 1000000 in
theorem goes_seq_out (n : Nat) (hn : 2 ≤ n) (B1 B2 : Nat) (s : Int) (hs : s < 0 ∨ 9 < s) (A : Option Addr) (l : List Fx) (cap : Nat) (hl : l.length ≤ 60) (n₀ : Nat) (w : World) (hB1 : B1 < n₀) (hB2 : B2 < n₀) (hn0 : n₀ ≤ w.heap.size)
    (c1 : w.cell? ⟨B1, 0, none⟩ = some (.int .i64 s)) (c2 : w.cell? ⟨B2, 0, none⟩ = some (.slice A l.length cap)) (hf : FactsAt n₀ w A l) :
    SeqE Fence.wide n Try.prog 40 #[.pointer (some ⟨B1, 0, none⟩), .pointer (some ⟨B2, 0, none⟩)] (fun x : Nat × Int => #[.int .i64 (x.1 : Int), .int .i64 x.2]) (fun _ _ => True) n₀ [] w := fun l' J Jx W hW hJ hY hJ0 => by
  have d1 := (hW.cell (p := ⟨B1, 0, none⟩) hB1).trans c1
  have d2 := (hW.cell (p := ⟨B2, 0, none⟩) hB2).trans c2
  have HF := Lib.hid (hf.below hW)
  clear hf c1 c2
  have HJ := Lib.hid hJ
  clear hJ hY
  refine callsIn_of_wp Try.func40 rfl trivial ?_ rfl
  simp only [Try.ntmps40, List.size_toArray, List.length_cons, List.length_nil, Nat.reduceAdd, Nat.reduceSub, Array.replicate_succ, Array.replicate_zero, List.push_toArray, List.append_toArray, List.nil_append, List.cons_append]
  gi_wp2
  refine wpIn_scope_wide ?_
  gi_wp2
  refine wpIn_label ?_
  gi_wp2
  gi_loopw [4, 12] (fun a i wr => i = .int .i64 0 ∧ a = .int .i64 s ∧ J [] wr ∧ Below n₀ W wr) (fun _ i _ => l.length - (intOf i).toNat)
  case atStart => exact ⟨rfl, rfl, hJ0, Below.refl _ _⟩
  case round =>
    obtain ⟨rfl, rfl, hJs, hbel⟩ := hrel
    by_cases hlt : 0 < l.length
    · obtain ⟨f, hfk⟩ : ∃ f, l[0]? = some f := ⟨_, List.getElem?_eq_getElem hlt⟩
      have hF' := FactsAt.below hbel HF.out
      rcases hF' with hnil | ⟨b, off, rfl, hb, hcell⟩
      · rw [hnil] at hlt; simp at hlt
      have hcell' := hcell 0 f hfk
      have c0 : wr.cell? ⟨b, off, none⟩ = some (.bool f.go) := by simpa using hcell' 0 _ rfl
      have c1 : wr.cell? ⟨b, off + 1, none⟩ = some (.bool f.made) := by simpa using hcell' 1 _ rfl
      have c2 : wr.cell? ⟨b, off + 2, none⟩ = some (.bool f.opn) := by simpa using hcell' 2 _ rfl
      have c3 : wr.cell? ⟨b, off + 3, none⟩ = some (.bool f.drained) := by simpa using hcell' 3 _ rfl
      have c4 : wr.cell? ⟨b, off + 4, none⟩ = some (.bool f.failed) := by simpa using hcell' 4 _ rfl
      have c5 : wr.cell? ⟨b, off + 5, none⟩ = some (.bool f.settled) := by simpa using hcell' 5 _ rfl
      have c6 : wr.cell? ⟨b, off + 6, none⟩ = some (.bool f.waits) := by simpa using hcell' 6 _ rfl
      have c7 : wr.cell? ⟨b, off + 7, none⟩ = some (.bool f.dropped) := by simpa using hcell' 7 _ rfl
      have c8 : wr.cell? ⟨b, off + 8, none⟩ = some (.bool f.swapped) := by simpa using hcell' 8 _ rfl
      have c9 : wr.cell? ⟨b, off + 9, none⟩ = some (.bool f.clear) := by simpa using hcell' 9 _ rfl
      have c10 : wr.cell? ⟨b, off + 10, none⟩ = some (.bool f.late) := by simpa using hcell' 10 _ rfl
      have c11 : wr.cell? ⟨b, off + 11, none⟩ = some (.bool f.stop) := by simpa using hcell' 11 _ rfl
      clear hcell hcell'
      have HCALL := Lib.hid (fun w' => next_out s hs f.go f.made f.opn f.drained f.failed f.settled f.waits f.dropped f.swapped f.clear f.late f.stop w')
      have HFK := Lib.hid hfk
      have HJS := Lib.hid hJs
      clear hfk hJs
      gi_wp2_with fail
      refine ⟨trivial, fun _ => by omega, (callsIn_wide.2 (HCALL.out _)).mono ?_⟩
      rintro e1 w1 ⟨rfl, hb1⟩
      have hbw : Bel wr w1 := (Bel.alloc (Bel.refl _) _).then_ hb1
      gi_wp2
      first
        | (refine ⟨fun f h => (by cases h), ?_⟩; gi_wp2; rw [Exit.noGoto_normal]; go_end0; exact ⟨⟨_, rfl⟩, .inl (HJ.out _ _ _ HJS.out hbw)⟩)
        | (rw [Exit.noGoto_normal]; go_end0; exact ⟨⟨_, rfl⟩, .inl (HJ.out _ _ _ HJS.out hbw)⟩)
    · gi_wp2
      rw [Exit.noGoto_normal]
      go_end0
      exact ⟨⟨_, rfl⟩, .inl hJs⟩
set_option maxRecDepth 100000 in
set_option maxHeartbeats 2000000 in
theorem goes_no (s : Int) (hs : s < 0 ∨ 9 < s) (A : Option Addr) (l : List Fx) (cap : Nat) (many : Int) (hl : l.length ≤ 60) (w : World) (hf : FactsAt w.heap.size w A l) :
    Calls Try.prog 6 #[.int .i64 s, .slice A l.length cap, .int .i64 many] w fun e w' => e = .returned (.bool true) ∧ Bel w w' := by
  have hs1 : decide (0 ≤ s) = false ∨ (0 ≤ s ∧ decide (s ≤ 9) = false) := by rcases hs with h | h; exact .inl (decide_eq_false (by omega)); exact .inr ⟨by omega, decide_eq_false (by omega)⟩
  have hnf := eql_nilFunc
  have HF := Lib.hid hf
  have HS := Lib.hid hs
  clear hf
  refine calls_of_wp_marks 6 Try.func6 rfl ?_
  simp only [Try.ntmps6, List.size_toArray, List.length_cons, List.length_nil, Nat.reduceAdd, Nat.reduceSub, Array.replicate_succ, Array.replicate_zero, List.push_toArray, List.append_toArray, List.nil_append, List.cons_append]
  by_cases h0l : l.length = 0
  all_goals
    have hl0 : decide (0 < l.length) = false ∨ 0 < l.length := by first | exact .inr (by omega) | exact .inl (decide_eq_false (by omega))
    have hl1 : decide ((0 : Int) < l.length) = false ∨ (0 : Int) < l.length := by first | exact .inr (by omega) | exact .inl (decide_eq_false (by omega))
    have HL0 := Lib.hid h0l
    clear hs h0l
    rcases hs1 with hs1 | ⟨hs2, hs1⟩
    all_goals
      rcases hl1 with hl1 | hl1
      all_goals
        rcases hl0 with hl0 | hl0
        all_goals (first | (exfalso; have := HL0.out; simp at hl0 hl1; omega) | skip)
  all_goals
    go_wp2
    refine wp_loop_rounds 1 ?_
    rw [rounds_succ]
    go_wp2_with (first | (go_at_call 22; go_in))
    obtain ⟨wr, hwr⟩ : ∃ wr, wr = (((w.alloc (.cells #[.int .i64 many] 3)).alloc (.cells #[.bool false] 4)).alloc (.cells #[.slice none 0 0] 53)) := ⟨_, rfl⟩
    rw [← hwr]
    have hs := HS.out
    have hbel : Bel w wr := by rw [hwr]; exact (((Bel.refl w).alloc _).alloc _).alloc _
    have hsz : w.heap.size + 3 ≤ wr.heap.size := by rw [hwr]; simp
    have ca : wr.cell? ⟨w.heap.size, 0, none⟩ = some (.int .i64 many) := by rw [hwr]; go_simp
    have cb : wr.cell? ⟨w.heap.size + 1, 0, none⟩ = some (.bool false) := by rw [hwr]; go_simp
    have fb : wr.frozen? ⟨w.heap.size + 1, 0, none⟩ = false := by rw [hwr]; go_simp
    have cc : wr.cell? ⟨w.heap.size + 1 + 1, 0, none⟩ = some (.slice none 0 0) := by rw [hwr]; go_simp
    have fc : wr.frozen? ⟨w.heap.size + 1 + 1, 0, none⟩ = false := by rw [hwr]; go_simp
    clear hwr hs1 hl0 hl1 HS
    go_wp2_with (go_at_call 23; refine (goes_fn _ _ _ _ _).mono ?_; rintro e1 w1 ⟨rfl, rfl⟩)
    refine wp_loop_rounds 3 ?_
    rw [rounds_succ]
    go_wp2_with fail
    -- the first turn
    obtain ⟨Wb, hWb⟩ : ∃ Wb, Wb = (((wr.alloc (.cells #[.int .i64 s] 38)).alloc (.cells #[.slice A l.length cap] 51)).alloc (.cells #[.int .i64 0] 3)) := ⟨_, rfl⟩
    rw [← hWb]
    have hWs : Wb.heap.size = wr.heap.size + 3 := by rw [hWb]; simp
    have hbb : Bel wr Wb := by rw [hWb]; exact ((Bel.refl wr).alloc _).alloc _ |>.alloc _
    have e1 := hbb.c ca
    have e2 := hbb.c cc
    have eB := hbb.c cb
    have gB := hbb.f cb fb
    have e3 : Wb.cell? ⟨wr.heap.size, 0, none⟩ = some (.int .i64 s) := by rw [hWb]; go_simp
    have e4 : Wb.cell? ⟨wr.heap.size + 1, 0, none⟩ = some (.slice A l.length cap) := by rw [hWb]; go_simp
    have e5 : Wb.cell? ⟨wr.heap.size + 1 + 1, 0, none⟩ = some (.int .i64 0) := by rw [hWb]; go_simp
    have hFb : FactsAt (wr.heap.size + 1 + 1 + 1) Wb A l := by
      have := FactsAt.below (hbel.trans (Below.mono hbb hbel.size)) HF.out
      rcases this with h | ⟨b, off, h1, h2, h3⟩
      · exact .inl h
      · exact .inr ⟨b, off, h1, by have := hbel.size; omega, h3⟩
    have HFB := Lib.hid hFb
    have HBB := Lib.hid hbb
    have HBW : Hid (Bel w Wb) := hbel.then_ hbb
    clear hFb hbb hWb hbel
    refine wp_count 6 (by omega) (gf := 40) (lb := #[.pointer (some ⟨wr.heap.size, 0, none⟩), .pointer (some ⟨wr.heap.size + 1, 0, none⟩)]) rfl (enters_of Try.func40 (by kernel_rfl) rfl)
      (goes_seq_out 5 (by omega) wr.heap.size (wr.heap.size + 1) s hs A l cap hl (wr.heap.size + 1 + 1 + 1) Wb (by omega) (by omega) (by omega) e3 e4 HFB.out) (by simp; omega) ((Below.refl _ _).alloc (by omega) _) (fun _ => rfl) (fun _ _ _ _ hs _ _ => hs)
      (wr.heap.size + 1 + 1 + 1) (Nat.le_refl _) (by simp; omega) (by rw [show wr.heap.size + 1 + 1 + 1 = Wb.heap.size by omega]; go_simp) (by rw [show wr.heap.size + 1 + 1 + 1 = Wb.heap.size by omega]; go_simp) 4 (fun j => decide ((j : Int) ≥ many)) ?_ ?_ ?_ (fun _ _ h => h) ?_
    rotate_left
    · skip
      intro l' x W K hK
      gi_wp2
      exact hK
    · intro l' k x W hx
      simp at hx
    · skip
      intro D k W hcnt hD hgW hcn hdf
      have hk := hcnt.upto
      obtain rfl : k = 0 := by simp at hk; omega
      have hbW : Bel Wb W := Bel.of_alloc' hgW (by omega)
      have hWsz : wr.heap.size + 3 ≤ W.heap.size := by have := hbW.size; omega
      clear hWs
      have d1 := hbW.c e1
      have d2 := hbW.c e2
      have d4 := hbW.c e5
      have dB := hbW.c eB
      have fB := hbW.f eB gB
      have d6 := hbW.c e3
      have d7 := hbW.c e4
      have HDF := Lib.hid hdf
      have HBb := Lib.hid hbW
      clear hgW hbW hcnt hk hdf e1 e2 e3 e4 e5 eB gB ca cb cc fb fc
      have hmx := ite_max
      have hmn := ite_min
      have hb1 : ((0 : Int) != min (0 : Int) (max 1 many)) = false := by rw [bne_eq_false_iff_eq]; omega
      have hb2 : ((0 : Int) == min (0 : Int) (max 1 many)) = true := by rw [beq_iff_eq]; omega
      have hb3 : min (0 : Int) (max 1 many) = 0 := by omega
      go_wp2_with fail
      all_goals
        clear hmx hmn hb1 hb2 hb3 hcn
        rw [rounds_succ]
        go_wp2_with fail
        obtain ⟨Wc, hWc⟩ : ∃ Wc, Wc = W.alloc (.cells #[.int .i64 1] 3) := ⟨_, rfl⟩
        rw [← hWc]
        have hWs : Wc.heap.size = W.heap.size + 1 := by rw [hWc]; simp
        have hbb : Bel W Wc := by rw [hWc]; exact (Bel.refl W).alloc _
        have e1 := hbb.c d1
        have e2 := hbb.c d2
        have eB := hbb.c dB
        have gB := hbb.f dB fB
        have e3 := hbb.c d6
        have e4 := hbb.c d7
        have e5 : Wc.cell? ⟨W.heap.size, 0, none⟩ = some (.int .i64 1) := by rw [hWc]; go_simp
        have hbWc : Bel Wb Wc := HBb.out.then_ hbb
        have hFc : FactsAt (W.heap.size + 1) Wc A l := by
          rcases HFB.out with h | ⟨b, off, h1, h2, h3⟩
          · exact .inl h
          · exact .inr ⟨b, off, h1, by omega, fun i f hi j v hj => hbWc.c (h3 i f hi j v hj)⟩
        have HFC := Lib.hid hFc
        have HBWC := Lib.hid (HBW.out.then_ hbWc)
        have HDC : Hid (Wc.heap[D]? = some (.deferred (some []))) := (hbb.block D (Array.getElem?_eq_some_iff.1 HDF.out).1).trans HDF.out
        clear hFc hbb hWc hbWc d1 d2 dB fB d6 d7 d4
        refine wp_count 6 (by omega) (gf := 40) (lb := #[.pointer (some ⟨wr.heap.size, 0, none⟩), .pointer (some ⟨wr.heap.size + 1, 0, none⟩)]) rfl (enters_of Try.func40 (by kernel_rfl) rfl)
          (goes_seq_out 5 (by omega) wr.heap.size (wr.heap.size + 1) s hs A l cap hl (W.heap.size + 1) Wc (by omega) (by omega) (by omega) e3 e4 HFC.out) (by simp; omega) ((Below.refl _ _).alloc (by omega) _) (fun _ => rfl) (fun _ _ _ _ hs _ _ => hs)
          (W.heap.size + 1) (Nat.le_refl _) (by simp; omega) (by rw [show W.heap.size + 1 = Wc.heap.size by omega]; go_simp) (by rw [show W.heap.size + 1 = Wc.heap.size by omega]; go_simp) 4 (fun _ => false) ?_ ?_ ?_ (fun _ _ h => h) ?_
        rotate_left
        · skip
          intro l' x W K hK
          gi_wp2
          exact hK
        · intro l' k x W hx
          simp at hx
        · skip
          intro D' k' W' hcnt hD' hgW hcn hdf
          have hk := hcnt.all
          obtain rfl : k' = 0 := hk
          have hbW : Bel Wc W' := Bel.of_alloc' hgW (by omega)
          clear hWs
          have d1 := hbW.c e1
          have d2 := hbW.c e2
          have d4 := hbW.c e5
          have dB := hbW.c eB
          have fB := hbW.f eB gB
          have HDF1 : Hid (W'.heap[D]? = some (.deferred (some []))) := (hbW.block D (Array.getElem?_eq_some_iff.1 HDC.out).1).trans HDC.out
          have HDF2 := Lib.hid hdf
          have HB2 := Lib.hid (HBWC.out.then_ hbW)
          clear hgW hbW hcnt hdf e1 e2 e3 e4 e5 eB gB
          go_wp2_with fail
          all_goals
            rw [rounds_succ]
            go_wp2_with fail
            refine (cworks_any _).mono ?_
            rintro e w99 ⟨rfl, hb99⟩
            have hba : Bel W' (W'.alloc (.cells #[.int .i64 2] 3)) := (Bel.refl _).alloc _
            have r1 := hb99.c (hba.c dB)
            have r2 := hb99.f (hba.c dB) (hba.f dB fB)
            have q1 : w99.heap[D]? = some (.deferred (some [])) := hb99.deferred ((Bel.alloc (Bel.refl _) _).deferred HDF1.out)
            have q2 : w99.heap[D']? = some (.deferred (some [])) := hb99.deferred ((Bel.alloc (Bel.refl _) _).deferred HDF2.out)
            have q3 : Bel w w99 := (HB2.out.alloc _).then_ hb99
            have hne : D ≠ D' := fun e => by have := (Array.getElem?_eq_some_iff.1 HDC.out).1; simp at hD'; omega
            have hDw : w.heap.size ≤ D := by simp at hD; have := HBW.out.size; omega
            have hDw' : w.heap.size ≤ D' := by simp at hD'; have := HBWC.out.size; omega
            clear hba hnf
            go_wp2
            refine leavesM_collected (D := D') (heap_setCell_deferred _ _ q2) (leavesM_collected (D := D) (putObj_deferred (heap_setCell_deferred _ _ q1) hne _) (leavesM_nil ?_ ⟨rfl, ?_⟩))
            · have hc : (w99.setCell ⟨w.heap.size + 1, 0, none⟩ (.bool true)).cell? ⟨w.heap.size + 1, 0, none⟩ = some (.bool true) := by go_simp
              have hc2 := cell_putDeferred (cell_putDeferred hc (heap_setCell_deferred ⟨w.heap.size + 1, 0, none⟩ (.bool true) q2) (.deferred none)) (putObj_deferred (heap_setCell_deferred ⟨w.heap.size + 1, 0, none⟩ (.bool true) q1) hne (.deferred none)) (.deferred none)
              simp [results, Try.results6, go_sem, hc2]
            · exact ((q3.setCell (by simp) _).putObj hDw' _).putObj hDw _
set_option maxRecDepth 100000 in
set_option maxHeartbeats 1000000 in
theorem goes_many (s : Int) (A : Option Addr) (n cap : Nat) (many : Int) (hl : 60 < n) (hm : n ≤ maxLen) (w : World) :
    Calls Try.prog 6 #[.int .i64 s, .slice A n cap, .int .i64 many] w fun e w' => e = .returned (.bool true) ∧ Bel w w' := by
  unfold maxLen at hm
  refine calls_of_wp_marks 6 Try.func6 rfl ?_
  simp only [Try.ntmps6, List.size_toArray, List.length_cons, List.length_nil, Nat.reduceAdd, Nat.reduceSub, Array.replicate_succ, Array.replicate_zero, List.push_toArray, List.append_toArray, List.nil_append, List.cons_append]
  go_wp2_with fail
  refine (cworks_any _).mono ?_
  rintro e w99 ⟨rfl, hb99⟩
  have r1 := hb99.c (p := ⟨w.heap.size + 1, 0, none⟩) (v := .bool false) (by go_simp)
  have r2 := hb99.f (p := ⟨w.heap.size + 1, 0, none⟩) (v := .bool false) (by go_simp) (by go_simp)
  have q3 : Bel w w99 := (((Bel.refl w).alloc _).alloc _).then_ hb99
  go_wp2
  refine leavesM_nil ?_ ⟨rfl, ?_⟩
  · have hc : (w99.setCell ⟨w.heap.size + 1, 0, none⟩ (.bool true)).cell? ⟨w.heap.size + 1, 0, none⟩ = some (.bool true) := by go_simp
    simp [results, Try.results6, go_sem, hc]
  · exact q3.setCell (by simp) _
end Go.Proofs.Ytpcgmghacalndaa
