/-
  LogReads: its walk.
-/
import Derived.Test.YthmigmiojifnkaaDoorMa
import Derived.Test.YthmigmiojifnkaaDoorLy
import Derived.Test.YthmigmiojifnkaaDoorLb
import Derived.Test.YthmigmiojifnkaaDoorLx
import Derived.Test.YthmigmiojifnkaaDoorRd
set_option linter.unusedVariables false
set_option linter.unusedSimpArgs false
set_option linter.unusedVariables false
set_option linter.unusedSimpArgs false
namespace Go.Proofs.YthmigmiojifnkaaDoor
open Go.RowKit Go.Shelf
attribute [local go_sem] Oper.semAt_some

/-- Bytes that came in, with all that a slice promises. -/
theorem bytes_read2 {H : Type} {enc : TypeId × Value → H} {w : World} {base : Nat} {spare : Nat → Bool} {held : Bool} {fuel : Nat} {cs : List Value} {x : DataW H × List MemPlace} (h : DataW.trod enc Tryd.prog w base spare held fuel 31 cs = some x) :
    ∃ (A : Option Addr) (s : List UInt8) (cap : Nat), cs = [.slice A s.length cap] ∧ s.length ≤ maxLen ∧ s.length ≤ cap ∧ (A = none → s.length = 0 ∧ cap = 0) ∧ (0 < s.length → ∃ b off, A = some ⟨b, off, none⟩) ∧ Reads w w.heap.size 1 A s.length (s.map bv) := by
  obtain ⟨A, s, cap, rfl, hm, hr⟩ := bytes_read h
  obtain ⟨A', n, cap', hcs, hn, -, h0, hi⟩ := slice_read (sz := 1) Tryd.underlying31 (by kernel_rfl) (by omega) h
  simp only [List.cons.injEq, and_true, Value.slice.injEq] at hcs
  obtain ⟨rfl, rfl, rfl⟩ := hcs
  exact ⟨A, s, cap, rfl, hm, hn, h0, fun h => by obtain ⟨b, off, e, -⟩ := hi h; exact ⟨b, off, e⟩, hr⟩
def r0 : DM := DM.new 3000
theorem r0_fit : RFit r0 := RFit.new 3000 (by decide) (by decide)
theorem r0_app (s : List UInt8) (hs : s.length ≤ 2000) : (r0.append 0 s).2 = 0 ∧ (r0.append 0 s).1.files 0 = s ∧ (r0.append 0 s).1.loose.length = 1 := by
  have ht : tot r0.files = 0 := by
    have : tot r0.files = sumTo (fun _ => 0) 64 := sumTo_congr 64 fun k _ => rfl
    rw [this, sumTo_zero]
  unfold DM.append
  rw [if_neg (by decide), if_neg (by rw [ht, show r0.room = 3000 from rfl]; omega)]
  refine ⟨rfl, ?_, rfl⟩
  show doneF r0.files ⟨0, s, 0, false⟩ 0 = s
  unfold doneF setF
  simp [Th.does, r0, DM.new]
theorem opened_fit {m : DM} (h : RFit m) (hn : m.loose.length < 1000000) (file : Int) (n : Nat) : RFit (m.opened file n) := by
  unfold DM.opened
  split
  · exact h
  · exact h.cut file n hn
theorem opened_file {m : DM} (file : Int) (h0 : 0 ≤ file) (h64 : file < 64) (xs : List (List UInt8)) (t : List UInt8) (hs : m.files file = recsN xs ++ t) : (m.opened file (recsN xs).length).files file = recsN xs := by
  unfold DM.opened
  split
  · rename_i h
    have hl := congrArg List.length hs
    rw [List.length_append] at hl
    have ht : t = [] := List.eq_nil_of_length_eq_zero (by omega)
    rw [hs, ht, List.append_nil]
  · unfold DM.cut
    have hl := congrArg List.length hs
    rw [List.length_append] at hl
    rw [if_neg (by omega), if_neg (by omega)]
    show doneF m.files _ file = _
    unfold doneF setF
    simp [Th.does, hs]
theorem opened_loose (m : DM) (file : Int) (n : Nat) : (m.opened file n).loose.length ≤ m.loose.length + 1 := by
  unfold DM.opened
  split
  · omega
  · unfold DM.cut
    split
    · show m.loose.length ≤ _; omega
    · split
      · show m.loose.length ≤ _; omega
      · show (m.loose ++ [_]).length ≤ _; simp
/-- A part of the code is walked up to a frame that hangs on three things. -/
theorem wp_cut3 {P : Program} {c : Code} {Q : Exit → Act → World → Prop} {a : Act} {w : World} (F : Nat → Array Value → Array Value → Act) (R : Nat → Array Value → Array Value → World → Prop)
    (h : c.wp P (fun e a' V => ∃ bx ds0 ds1, e = .normal ∧ a' = F bx ds0 ds1 ∧ R bx ds0 ds1 V) a w) (k : ∀ bx ds0 ds1 V, R bx ds0 ds1 V → Q .normal (F bx ds0 ds1) V) : c.wp P Q a w :=
  Code.wp_mono (fun e a' V h => by obtain ⟨bx, ds0, ds1, rfl, rfl, hr⟩ := h; exact k _ _ _ _ hr) h
theorem zeroR_nobool (i : Nat) (v : Bool) (hv : Tryd.zeroCells37[i]? = some (.bool v)) : False := by
  have h := (Array.all_eq_true.1 (show Tryd.zeroCells37.all (fun v => match v with | .bool _ => false | _ => true) = true by kernel_rfl)) i (Array.getElem?_eq_some_iff.1 hv).1
  have e := (Array.getElem?_eq_some_iff.1 hv).2
  rw [e] at h
  cases h
theorem store_fin {w V : World} (hb : Bel w V) {bx : Nat} (hx : w.heap.size ≤ bx) (hz : V.heap[bx]? = some (.cells Tryd.zeroCells37 37 (0, 0))) {ds : Array Value} {m : DM} (hd : RDis V ds m) :
    RDis (V.setRow bx ds) ds m ∧ Bel w (V.setRow bx ds) ∧ (V.setRow bx ds).heap[bx]? = some (.cells ds 37 (0, 0)) := by
  obtain ⟨k1, k2⟩ := setRow_else V bx ds
  exact ⟨hd.apart hz zeroR_nobool k1 k2, below_setRow hb hx ds, setRow_heap _ _ _ _ _ _ hz⟩
set_option maxRecDepth 100000 in
set_option maxHeartbeats 8000000 in
theorem lreads_any (A : Option Addr) (cap : Nat) (s : List UInt8) (hm : s.length ≤ maxLen) (hcap : s.length ≤ cap) (hA : A = none → s.length = 0 ∧ cap = 0) (hA1 : 0 < s.length → ∃ b off, A = some ⟨b, off, none⟩) (w : World) (hg : ErrType w)
    (hr : Reads w w.heap.size 1 A s.length (s.map bv)) : Calls Tryd.prog 6 #[.slice A s.length cap] w fun e w' => e = .returned (.bool true) ∧ Bel w w' := by
  have hnf := fun (f : Fn) (a b : Array Value) (w : World) => (show (binOp .eql 75 (.func f a b) .nilFunc).run Tryd.prog w = .ok (.bool false) w by kernel_rfl)
  have HW := fun w' (hb : Bel w w') => Lib.hid (l10works_any w' (hg.bel hb))
  have HG := Lib.hid hg
  have HRD := Lib.hid hr
  have HBR : Hid (BytesR w (.slice A s.length cap) s (fun _ => True)) := BytesR.of_reads hr hcap hA1
  have HA := Lib.hid hA
  obtain ⟨W, hW⟩ : ∃ W, W = w.alloc (.cells #[.bool false] 4) := ⟨_, rfl⟩
  have hbW : Bel w W := by rw [hW]; exact (Bel.refl w).alloc _
  have hres : W.cell? ⟨w.heap.size, 0, none⟩ = some (.bool false) ∧ W.frozen? ⟨w.heap.size, 0, none⟩ = false := by rw [hW]; exact ⟨by go_simp, by go_simp⟩
  have hszW : W.heap.size = w.heap.size + 1 := by rw [hW]; simp
  have HBW := Lib.hid hbW
  have HRES := Lib.hid hres
  have HSW := Lib.hid hszW
  have hmI : (s.length : Int) ≤ 9223372036854775807 := by unfold maxLen at hm; omega
  clear hg hr hcap hA hA1 hbW hres hszW hm
  by_cases hbig : 2000 < s.length
  · have hbI : (2000 : Int) < s.length := by omega
    clear hbig
    subst hW
    refine calls_of_wp_marks 12 Tryd.func6 rfl ?_
    simp only [Tryd.ntmps6, List.size_toArray, List.length_cons, List.length_nil, Nat.reduceAdd, Nat.reduceSub, Array.replicate_succ, Array.replicate_zero, List.push_toArray, List.append_toArray, List.nil_append, List.cons_append]
    go_wp2_with fail
    refine (HW _ HBW.out).out.mono ?_
    rintro e w1 ⟨rfl, hb1⟩
    have HB1 := Lib.hid hb1
    have e1 := hb1.c HRES.out.1
    have f1 : w1.frozen? ⟨w.heap.size, 0, none⟩ = false := (Below.frozen hb1 (by show w.heap.size < _; simp)).trans HRES.out.2
    clear hb1
    go_wp2
    have e9 : (w1.setCell ⟨w.heap.size, 0, none⟩ (.bool true)).cell? ⟨w.heap.size, 0, none⟩ = some (.bool true) := by go_simp
    exact leavesM_nil (v := .bool true) (by simp [results, Tryd.results6, go_sem, e9]) ⟨rfl, (HBW.out.then_ HB1.out).setCell (Nat.le_refl _) _⟩
  obtain ⟨xs, t, hs, hx, ht⟩ := parse s.length s (Nat.le_refl _)
  obtain ⟨ha1, ha2, ha3⟩ := r0_app s (by omega)
  have hf1 : RFit (r0.append 0 s).1 := r0_fit.append 0 s (by decide)
  have hsI : (s.length : Int) ≤ 2000 := by omega
  have hsl : s.length ≤ 2000 := by omega
  have hxl : (recsN xs).length ≤ 2000 := by have := congrArg List.length hs; rw [List.length_append] at this; omega
  have HWH := Lib.hid (fun V (hb : Bel w V) => wholeR_any xs t hx ht s hs A cap _ (by omega) V (HBR.out.bel hb))
  have HRW := Lib.hid (fun V => r10Whole_any xs t hx ht s hs (by omega) V)
  have HA1 := Lib.hid ha1
  have HF1 := Lib.hid hf1
  have HS1 := Lib.hid (ha2.trans hs)
  have HL1 := Lib.hid ha3
  have HX := Lib.hid hx
  have HT := Lib.hid ht
  have HA0 : Hid (A = none → s.length = 0 ∧ cap = 0) := HA.out
  clear hs hx ht ha1 ha2 ha3 hf1 hbig HBR
  have HN0 := Lib.hid (new_any 3000 (by decide) (by decide) W)
  have HR0 := Lib.hid (fun V => rNew_any 3000 V)
  subst hW
  refine calls_of_wp_marks 12 Tryd.func6 rfl ?_
  simp only [Tryd.ntmps6, List.size_toArray, List.length_cons, List.length_nil, Nat.reduceAdd, Nat.reduceSub, Array.replicate_succ, Array.replicate_zero, List.push_toArray, List.append_toArray, List.nil_append, List.cons_append]
  go_wp2_with fail
  refine HN0.out.mono ?_
  rintro e w1 ⟨bd, fp0, rfl, hD0, hfp0, hb1⟩
  have HAP := Lib.hid (append_any (m := r0) hD0 r0_fit.fit (HG.out.bel (HBW.out.then_ hb1)) 0 A s.length cap s rfl HA0.out (by omega) (HRD.out.belHeap (HBW.out.then_ hb1)))
  rw [HA1.out] at HAP
  have HFP0 := Lib.hid hfp0
  have HB1 := Lib.hid (HBW.out.then_ hb1)
  have HC1 := Lib.hid hb1
  clear hD0 hfp0 hb1
  go_wp2_with fail
  refine HAP.out.mono ?_
  rintro e w2 ⟨rfl, fp1, hD1, hO1⟩
  have hfp0 : ∀ b, fp0 b → w.heap.size ≤ b := fun b hb => Nat.le_trans HBW.out.size (HFP0.out b hb)
  have hb2 : Bel w w2 := HB1.out.trans (hO1.below HB1.out.size hfp0)
  have HC2 : Hid (Bel (w.alloc (.cells #[.bool false] 4)) w2) := HC1.out.trans (hO1.below HC1.out.size HFP0.out)
  have HFQ1 : Hid (∀ b, fp1 b → (w.alloc (.cells #[.bool false] 4)).heap.size ≤ b) := fun b hb => (hO1.sub b hb).elim (HFP0.out b) (fun h => Nat.le_trans HC1.out.size h)
  have hfp1 : ∀ b, fp1 b → w.heap.size ≤ b := fun b hb => (hO1.sub b hb).elim (hfp0 b) (fun h => Nat.le_trans HB1.out.size h)
  have HOP := Lib.hid (lopen_any hD1 HF1.out.fit (HG.out.bel hb2) 0 (by decide) (by decide) xs t HX.out HT.out HS1.out)
  have HB2 := Lib.hid hb2
  have HFP1 := Lib.hid hfp1
  clear hD1 hO1 hfp0 hb2 hfp1 HAP HN0 HFP0
  go_wp2_with fail
  refine HOP.out.mono ?_
  rintro e w3 ⟨bl, fd, rfl, hbl, hl, hO3⟩
  have hb3 : Bel w w3 := HB2.out.trans (hO3.below HB2.out.size HFP1.out)
  have HB3 := Lib.hid hb3
  have HC3 : Hid (Bel (w.alloc (.cells #[.bool false] 4)) w3) := HC2.out.trans (hO3.below HC2.out.size HFQ1.out)
  have HLG := Lib.hid hl
  clear hbl hl hO3 hb3 HOP
  have cvs : ∀ V, Bel w3 V → (convert 31 9 (.slice A s.length cap)).run Tryd.prog V = .ok (.string ⟨s.toArray⟩) V := fun V hb => by
    have := conv_reads cap ((HRD.out.belHeap (HB3.out.then_ hb)))
    unfold strV at this
    exact this
  have HRA := Lib.hid (fun V ds (hd : RDis V ds r0) => by have := rdAppend_any (m := r0) hd r0_fit (by decide) 0 s (by omega); rw [HA1.out] at this; exact this)
  have HCV := Lib.hid cvs
  go_wp2_with fail
  apply wp_cut3 (R := fun bx ds0 ds1 V => RDis V ds1 (r0.append 0 s).1 ∧ Bel w3 V ∧ V.heap[bx]? = some (.cells ds1 37 (0, 0)) ∧ w3.heap.size ≤ bx)
  case h =>
  --R1--
    refine wp_region_noPanic ?_
    refine wp_region_held_drew (S := (fun V : World => Bel w3 V)) (by kernel_rfl) ?_ (fun hH0 => ?_)
    · exact (Bel.refl w3).drew
    refine wpAnyH_take (i := 1) (oi := _) (v := ?v1) rfl (by kernel_rfl) (by kernel_rfl) (by kernel_rfl) ?hq1 (Or.inl ⟨by rfl, ?hy1⟩) (by assumption) ?rest1
    case hq1 => exact fun _ _ _ h => h
    case hy1 => (intro w hSw; (try dsimp only at hSw); go_simp; try with_reducible rfl)
    try simp only [Act.put, List.setIfInBounds_toArray, List.set_cons_zero, List.set_cons_succ]
    refine wpAnyH_take (i := 2) (oi := _) (v := ?v2) rfl (by kernel_rfl) (by kernel_rfl) (by kernel_rfl) ?hq2 (Or.inl ⟨by rfl, ?hy2⟩) (by assumption) ?rest2
    case hq2 => exact fun _ _ _ h => h
    case hy2 => (intro V hSw; (try dsimp only at hSw); have hcv := cvs V hSw; go_simp; try with_reducible rfl)
    try simp only [Act.put, List.setIfInBounds_toArray, List.set_cons_zero, List.set_cons_succ]
    refine wpAnyH_ready (rs := [0, 7]) (by kernel_rfl) (by simp) ?_
    refine AllReadyH.cons (o := _) rfl (fun K hK => ?_) (AllReadyH.cons (o := _) rfl (fun K hK => ?_) AllReadyH.nil)
    · go_simp
      (go_at_call 13; refine (HR0.out _).mono ?_; rintro e w4 ⟨ds0, rfl, hd0, hb4⟩)
      have hS4 : Bel w3 w4 := Bel.then_ hH0 hb4
      refine hK.out _ _ ?_ (fun hH1 => ?_)
      · (try dsimp only); (first | assumption | exact Below.alloc (by assumption) (Nat.le_trans HH0.out (by assumption)) _ | exact hS9)
      clear hK K hH0
      try simp only [Act.put, List.setIfInBounds_toArray, List.set_cons_zero, List.set_cons_succ]
      refine wpAnyH_ready (rs := [3, 7]) (by kernel_rfl) (by simp) ?_
      refine AllReadyH.cons (o := _) rfl (fun K hK => ?_) (AllReadyH.cons (o := _) rfl (fun K hK => ?_) AllReadyH.nil)
      · go_simp
        (go_at_call 27; refine (HRA.out _ _ hd0).mono ?_; rintro e w5 ⟨ds1, rfl, hd1, hb5⟩)
        have hS5 : Bel w3 w5 := Bel.then_ hH1 hb5
        refine hK.out _ _ ?_ (fun hH2 => ?_)
        · (try dsimp only); (first | assumption | exact Below.alloc (by assumption) (Nat.le_trans HH0.out (by assumption)) _ | exact hS9)
        clear hK K hH1
        try simp only [Act.put, List.setIfInBounds_toArray, List.set_cons_zero, List.set_cons_succ]
        refine wpAnyH_take (i := 4) (oi := _) (v := ?v4a) rfl (by kernel_rfl) (by kernel_rfl) (by kernel_rfl) ?hq4a (Or.inl ⟨by rfl, ?hy4a⟩) (by assumption) ?rest4a
        case hq4a => exact fun _ _ _ h => h
        case hy4a => (intro w hSw; (try dsimp only at hSw); go_simp; try with_reducible rfl)
        try simp only [Act.put, List.setIfInBounds_toArray, List.set_cons_zero, List.set_cons_succ]
        refine wpAnyH_take (i := 5) (oi := _) (v := ?v5a) rfl (by kernel_rfl) (by kernel_rfl) (by kernel_rfl) ?hq5a (Or.inl ⟨by rfl, ?hy5a⟩) (by assumption) ?rest5a
        case hq5a => exact fun _ _ _ h => h
        case hy5a => (intro w hSw; (try dsimp only at hSw); go_simp; try with_reducible rfl)
        try simp only [Act.put, List.setIfInBounds_toArray, List.set_cons_zero, List.set_cons_succ]
        refine wpAnyH_take (i := 6) (oi := _) (v := ?v6a) rfl (by kernel_rfl) (by kernel_rfl) (by kernel_rfl) ?hq6a (Or.inl ⟨by rfl, ?hy6a⟩) (by assumption) ?rest6a
        case hq6a => exact fun _ _ _ h => h
        case hy6a => (intro w hSw; (try dsimp only at hSw); go_simp; try with_reducible rfl)
        try simp only [Act.put, List.setIfInBounds_toArray, List.set_cons_zero, List.set_cons_succ]
        refine wpAnyH_ready (rs := [7]) (by kernel_rfl) (by simp) ?_
        refine AllReadyH.cons (o := _) rfl (fun K hK => ?_) AllReadyH.nil
        go_simp
        refine hK.out _ _ ?_ (fun hH3 => ?_)
        · (try dsimp only); exact Bel.alloc hH2 _
        clear hK K hH2
        try simp only [Act.put, List.setIfInBounds_toArray, List.set_cons_zero, List.set_cons_succ]
        have hz := World.alloc_heap_new w5 (.cells Tryd.zeroCells37 37)
        have hs5 := Below.size hS5
        refine wpAnyH_ready (rs := [8]) (by kernel_rfl) (by simp) ?_
        refine AllReadyH.cons (o := _) rfl (fun K hK => ?_) AllReadyH.nil
        obtain ⟨k1, k2, k3⟩ := store_fin hH3 (bx := w5.heap.size) (by omega) hz (hd1.bel ((Bel.refl w5).alloc (.cells Tryd.zeroCells37 37)))
        rw [if_pos (by rfl)]
        refine wp_store_row 37 _ _ rfl w5.heap.size ds1 rfl rfl _ _ hz ((hd1.bel ((Bel.refl w5).alloc (.cells Tryd.zeroCells37 37)))).info ((hd1.bel ((Bel.refl w5).alloc (.cells Tryd.zeroCells37 37)))).zsize ((hd1.bel ((Bel.refl w5).alloc (.cells Tryd.zeroCells37 37)))).one ?_
        try simp only [Act.put, List.setIfInBounds_toArray, List.set_cons_zero, List.set_cons_succ]
        refine hK.out _ _ ?_ (fun hH4 => ?_)
        · (try dsimp only); exact k2
        clear hK K hH3
        try simp only [Act.put, List.setIfInBounds_toArray, List.set_cons_zero, List.set_cons_succ]
        refine wpAnyH_ready (rs := [9]) (by kernel_rfl) (by simp) ?_
        refine AllReadyH.cons (o := _) rfl (fun K hK => ?_) AllReadyH.nil
        go_simp
        refine hK.out _ _ ?_ (fun hH5 => ?_)
        · (try dsimp only); (first | assumption | exact Below.alloc (by assumption) (Nat.le_trans HH0.out (by assumption)) _ | exact hS9)
        clear hK K hH4
        try simp only [Act.put, List.setIfInBounds_toArray, List.set_cons_zero, List.set_cons_succ]
        refine wpAnyH_done (by kernel_rfl) ?_ _
        refine NoPanic.normal ?_
        obtain ⟨bx, hbx⟩ : ∃ bx, bx = w5.heap.size := ⟨_, rfl⟩
        rw [← hbx] at k1 k2 k3 ⊢
        exact ⟨bx, ds0, ds1, rfl, rfl, k1, k2, k3, by rw [hbx]; omega⟩
      · go_simp
        refine hK.out _ _ ?_ (fun hH2 => ?_)
        · (try dsimp only); exact Bel.alloc hH1 _
        clear hK K hH1
        try simp only [Act.put, List.setIfInBounds_toArray, List.set_cons_zero, List.set_cons_succ]
        have hal := (Bel.refl w4).alloc (.cells Tryd.zeroCells37 37)
        refine wpAnyH_ready (rs := [3]) (by kernel_rfl) (by simp) ?_
        refine AllReadyH.cons (o := _) rfl (fun K hK => ?_) AllReadyH.nil
        go_simp
        (go_at_call 27; refine (HRA.out _ _ (hd0.bel hal)).mono ?_; rintro e w5 ⟨ds1, rfl, hd1, hb5⟩)
        have hS5 : Bel w3 w5 := Bel.then_ hH2 hb5
        refine hK.out _ _ ?_ (fun hH3 => ?_)
        · (try dsimp only); (first | assumption | exact Below.alloc (by assumption) (Nat.le_trans HH0.out (by assumption)) _ | exact hS9)
        clear hK K hH2
        try simp only [Act.put, List.setIfInBounds_toArray, List.set_cons_zero, List.set_cons_succ]
        refine wpAnyH_take (i := 4) (oi := _) (v := ?v4b) rfl (by kernel_rfl) (by kernel_rfl) (by kernel_rfl) ?hq4b (Or.inl ⟨by rfl, ?hy4b⟩) (by assumption) ?rest4b
        case hq4b => exact fun _ _ _ h => h
        case hy4b => (intro w hSw; (try dsimp only at hSw); go_simp; try with_reducible rfl)
        try simp only [Act.put, List.setIfInBounds_toArray, List.set_cons_zero, List.set_cons_succ]
        refine wpAnyH_take (i := 5) (oi := _) (v := ?v5b) rfl (by kernel_rfl) (by kernel_rfl) (by kernel_rfl) ?hq5b (Or.inl ⟨by rfl, ?hy5b⟩) (by assumption) ?rest5b
        case hq5b => exact fun _ _ _ h => h
        case hy5b => (intro w hSw; (try dsimp only at hSw); go_simp; try with_reducible rfl)
        try simp only [Act.put, List.setIfInBounds_toArray, List.set_cons_zero, List.set_cons_succ]
        refine wpAnyH_take (i := 6) (oi := _) (v := ?v6b) rfl (by kernel_rfl) (by kernel_rfl) (by kernel_rfl) ?hq6b (Or.inl ⟨by rfl, ?hy6b⟩) (by assumption) ?rest6b
        case hq6b => exact fun _ _ _ h => h
        case hy6b => (intro w hSw; (try dsimp only at hSw); go_simp; try with_reducible rfl)
        try simp only [Act.put, List.setIfInBounds_toArray, List.set_cons_zero, List.set_cons_succ]
        have hz := hb5.deferred (World.alloc_heap_new w4 (.cells Tryd.zeroCells37 37))
        have hs4 := Below.size hS4
        refine wpAnyH_ready (rs := [8]) (by kernel_rfl) (by simp) ?_
        refine AllReadyH.cons (o := _) rfl (fun K hK => ?_) AllReadyH.nil
        obtain ⟨k1, k2, k3⟩ := store_fin hH3 (bx := w4.heap.size) (by omega) hz hd1
        rw [if_pos (by rfl)]
        refine wp_store_row 37 _ _ rfl w4.heap.size ds1 rfl rfl _ _ hz (hd1).info (hd1).zsize (hd1).one ?_
        try simp only [Act.put, List.setIfInBounds_toArray, List.set_cons_zero, List.set_cons_succ]
        refine hK.out _ _ ?_ (fun hH4 => ?_)
        · (try dsimp only); exact k2
        clear hK K hH3
        try simp only [Act.put, List.setIfInBounds_toArray, List.set_cons_zero, List.set_cons_succ]
        refine wpAnyH_ready (rs := [9]) (by kernel_rfl) (by simp) ?_
        refine AllReadyH.cons (o := _) rfl (fun K hK => ?_) AllReadyH.nil
        go_simp
        refine hK.out _ _ ?_ (fun hH5 => ?_)
        · (try dsimp only); (first | assumption | exact Below.alloc (by assumption) (Nat.le_trans HH0.out (by assumption)) _ | exact hS9)
        clear hK K hH4
        try simp only [Act.put, List.setIfInBounds_toArray, List.set_cons_zero, List.set_cons_succ]
        refine wpAnyH_done (by kernel_rfl) ?_ _
        refine NoPanic.normal ?_
        obtain ⟨bx, hbx⟩ : ∃ bx, bx = w4.heap.size := ⟨_, rfl⟩
        rw [← hbx] at k1 k2 k3 ⊢
        exact ⟨bx, ds0, ds1, rfl, rfl, k1, k2, k3, by rw [hbx]; omega⟩
    · go_simp
      refine hK.out _ _ ?_ (fun hH1 => ?_)
      · (try dsimp only); exact Bel.alloc hH0 _
      clear hK K hH0
      try simp only [Act.put, List.setIfInBounds_toArray, List.set_cons_zero, List.set_cons_succ]
      refine wpAnyH_ready (rs := [0]) (by kernel_rfl) (by simp) ?_
      refine AllReadyH.cons (o := _) rfl (fun K hK => ?_) AllReadyH.nil
      go_simp
      (go_at_call 13; refine (HR0.out _).mono ?_; rintro e w4 ⟨ds0, rfl, hd0, hb4⟩)
      have hS4 : Bel w3 w4 := Bel.then_ hH1 hb4
      refine hK.out _ _ ?_ (fun hH2 => ?_)
      · (try dsimp only); (first | assumption | exact Below.alloc (by assumption) (Nat.le_trans HH0.out (by assumption)) _ | exact hS9)
      clear hK K hH1
      try simp only [Act.put, List.setIfInBounds_toArray, List.set_cons_zero, List.set_cons_succ]
      refine wpAnyH_ready (rs := [3]) (by kernel_rfl) (by simp) ?_
      refine AllReadyH.cons (o := _) rfl (fun K hK => ?_) AllReadyH.nil
      go_simp
      (go_at_call 27; refine (HRA.out _ _ hd0).mono ?_; rintro e w5 ⟨ds1, rfl, hd1, hb5⟩)
      have hS5 : Bel w3 w5 := Bel.then_ hH2 hb5
      refine hK.out _ _ ?_ (fun hH3 => ?_)
      · (try dsimp only); (first | assumption | exact Below.alloc (by assumption) (Nat.le_trans HH0.out (by assumption)) _ | exact hS9)
      clear hK K hH2
      try simp only [Act.put, List.setIfInBounds_toArray, List.set_cons_zero, List.set_cons_succ]
      refine wpAnyH_take (i := 4) (oi := _) (v := ?v4c) rfl (by kernel_rfl) (by kernel_rfl) (by kernel_rfl) ?hq4c (Or.inl ⟨by rfl, ?hy4c⟩) (by assumption) ?rest4c
      case hq4c => exact fun _ _ _ h => h
      case hy4c => (intro w hSw; (try dsimp only at hSw); go_simp; try with_reducible rfl)
      try simp only [Act.put, List.setIfInBounds_toArray, List.set_cons_zero, List.set_cons_succ]
      refine wpAnyH_take (i := 5) (oi := _) (v := ?v5c) rfl (by kernel_rfl) (by kernel_rfl) (by kernel_rfl) ?hq5c (Or.inl ⟨by rfl, ?hy5c⟩) (by assumption) ?rest5c
      case hq5c => exact fun _ _ _ h => h
      case hy5c => (intro w hSw; (try dsimp only at hSw); go_simp; try with_reducible rfl)
      try simp only [Act.put, List.setIfInBounds_toArray, List.set_cons_zero, List.set_cons_succ]
      refine wpAnyH_take (i := 6) (oi := _) (v := ?v6c) rfl (by kernel_rfl) (by kernel_rfl) (by kernel_rfl) ?hq6c (Or.inl ⟨by rfl, ?hy6c⟩) (by assumption) ?rest6c
      case hq6c => exact fun _ _ _ h => h
      case hy6c => (intro w hSw; (try dsimp only at hSw); go_simp; try with_reducible rfl)
      try simp only [Act.put, List.setIfInBounds_toArray, List.set_cons_zero, List.set_cons_succ]
      have hz : w5.heap[w3.heap.size]? = some (.cells Tryd.zeroCells37 37 (0, 0)) := (hb4.then_ hb5).deferred (World.alloc_heap_new w3.drew (.cells Tryd.zeroCells37 37))
      have hs3 : w3.heap.size ≤ w3.drew.heap.size := Nat.le_refl _
      refine wpAnyH_ready (rs := [8]) (by kernel_rfl) (by simp) ?_
      refine AllReadyH.cons (o := _) rfl (fun K hK => ?_) AllReadyH.nil
      obtain ⟨k1, k2, k3⟩ := store_fin hH3 (bx := w3.heap.size) (by omega) hz hd1
      rw [if_pos (by rfl)]
      refine wp_store_row 37 _ _ rfl w3.heap.size ds1 rfl rfl _ _ hz (hd1).info (hd1).zsize (hd1).one ?_
      try simp only [Act.put, List.setIfInBounds_toArray, List.set_cons_zero, List.set_cons_succ]
      refine hK.out _ _ ?_ (fun hH4 => ?_)
      · (try dsimp only); exact k2
      clear hK K hH3
      try simp only [Act.put, List.setIfInBounds_toArray, List.set_cons_zero, List.set_cons_succ]
      refine wpAnyH_ready (rs := [9]) (by kernel_rfl) (by simp) ?_
      refine AllReadyH.cons (o := _) rfl (fun K hK => ?_) AllReadyH.nil
      go_simp
      refine hK.out _ _ ?_ (fun hH5 => ?_)
      · (try dsimp only); (first | assumption | exact Below.alloc (by assumption) (Nat.le_trans HH0.out (by assumption)) _ | exact hS9)
      clear hK K hH4
      try simp only [Act.put, List.setIfInBounds_toArray, List.set_cons_zero, List.set_cons_succ]
      refine wpAnyH_done (by kernel_rfl) ?_ _
      refine NoPanic.normal ?_
      obtain ⟨bx, hbx⟩ : ∃ bx, bx = w3.heap.size := ⟨_, rfl⟩
      rw [← hbx] at k1 k2 k3 ⊢
      exact ⟨bx, ds0, ds1, rfl, rfl, k1, k2, k3, by rw [hbx]; omega⟩
  --R1END--
  case k =>
  intro bx ds0 ds1 w5 hh
  obtain ⟨hd1, hb5, hxb, hbx⟩ := hh
  have HRO := Lib.hid (r10Open_any hd1 HF1.out (by rw [HL1.out]; decide) 0 (by decide) (by decide) xs t HX.out HT.out HS1.out)
  have HB35 := Lib.hid hb5
  have HXB := Lib.hid hxb
  have HI1 := Lib.hid hd1.info
  clear hd1 hb5 hxb hbx HRA HR0 HCV cvs
  go_wp2_with (first
               | (refine wpList_load_row rfl 37 _ rfl bx rfl _ ds1 (0, 0) _ HXB.out Tryd.underlying37 rfl HI1.out ?_)
               | (go_at_call 28; refine HRO.out.mono ?_; rintro e w6 ⟨cs, rfl, hlg, hb6⟩
                  have HB6 := Lib.hid ((HB3.out.then_ HB35.out).then_ hb6)
                  have HC6 := Lib.hid ((HC3.out.then_ HB35.out).then_ hb6)
                  have HLG6 := Lib.hid (HLG.out.bel (HB35.out.then_ hb6))
                  have HRL6 := Lib.hid hlg
                  have HSZ : Hid ((Tryd.prog.info? 65).map (·.size) = some cs.size) := by obtain ⟨ds, hd, e⟩ := id HRL6.out; show _ = _; rw [e, Array.size_append, hd.size]; kernel_rfl
                  have HZ68 : Hid (Tryd.zeroCells65.size = cs.size) := by obtain ⟨ds, hd, e⟩ := id HRL6.out; show _ = _; rw [e, Array.size_append, hd.size]; kernel_rfl
                  have HO68 : Hid (cs.all (·.oneCell') = true) := by obtain ⟨ds, hd, e⟩ := id HRL6.out; show _ = _; rw [e]; exact oneL ds hd.one _ _
                  clear hlg hb6)
               | (refine wpList_store_row rfl 65 _ _ rfl w6.heap.size cs rfl rfl _ _ (World.alloc_heap_new _ _) HSZ.out HZ68.out HO68.out ?_
                  rw [World.setRow_alloc_new]))
  obtain ⟨m2, hm2⟩ : ∃ m2, m2 = (r0.append 0 s).1.opened 0 (recsN xs).length := ⟨_, rfl⟩
  rw [← hm2] at HLG6 HRL6
  have hf2 : RFit m2 := by rw [hm2]; exact opened_fit HF1.out (by rw [HL1.out]; decide) 0 _
  have hfi2 : m2.files 0 = recsN xs := by rw [hm2]; exact opened_file 0 (by decide) (by decide) xs t HS1.out
  have hll2 : (m2.loose.length : Int) ≤ 1000000 := by have := hf2.few; omega
  obtain ⟨ds2, hd2, hcs2⟩ := id HRL6.out
  obtain ⟨A2, c2, hrc2, hth2⟩ := id hd2
  obtain ⟨l2, hl2⟩ : ∃ l2 : List Value, ds2 = l2.toArray := ⟨ds2.toList, by simp⟩
  obtain ⟨l, hl⟩ : ∃ l : List Value, cs = l.toArray := ⟨cs.toList, by simp⟩
  subst hl
  subst hl2
  obtain ⟨W7, hW7⟩ : ∃ W7, W7 = w6.alloc (.cells l.toArray 65) := ⟨_, rfl⟩
  rw [← hW7]
  have hb67 : Bel w6 W7.drew := by rw [hW7]; exact ((Bel.refl w6).alloc _).drew
  have hbk : W7.drew.heap[w6.heap.size]? = some (.cells l.toArray 65 (0, 0)) := by rw [hW7]; exact World.alloc_heap_new w6 _
  have HB67 := Lib.hid hb67
  have HKEEP : Hid (∀ V, Bel W7.drew V → (fun V : World => V.rangeAt w6.heap.size 0 l ∧ V.rangeAt w6.heap.size 0 l2 ∧ V.cell? ⟨w6.heap.size, 65, none⟩ = some (.slice A2 m2.loose.length c2) ∧ (convert 31 9 (.slice A s.length cap)).run Tryd.prog V = .ok (.string ⟨s.toArray⟩) V) V) := fun V hV => by
    have hk := hV.deferred hbk
    refine ⟨fun j v hv => ?_, fun j v hv => ?_, ?_, ?_⟩
    · rw [Nat.zero_add, Blk.cell hk j]
      simpa using hv
    · have hj := (List.getElem?_eq_some_iff.1 hv).1
      rw [Nat.zero_add, Blk.cell hk j, hcs2, Array.getElem?_append_left (by simpa using hj)]
      simpa using hv
    · rw [Blk.cell hk 65, hcs2, Array.getElem?_append_left (by rw [hrc2.size]; omega)]
      exact hrc2.loose
    · have := conv_reads cap ((HRD.out.belHeap ((HB6.out.then_ HB67.out).then_ hV)))
      unfold strV at this
      exact this
  have hu65 := Tryd.underlying65
  have hi65 : (Tryd.prog.info? 65).map (·.size) = some l.length := by simpa using HSZ.out
  have hu37 := Tryd.underlying37
  have hi37 : (Tryd.prog.info? 37).map (·.size) = some l2.length := by simpa using hd2.info
  have hen : ((recsN xs).length : Int) = ((m2.files 0).length : Int) := by rw [hfi2]
  rw [hen] at HLG6
  have HIS := Lib.hid (fun V (hV : Bel W7.drew V) => is10_any (HLG6.out.bel (HB67.out.then_ hV)) hf2 (by decide) (by decide) xs HX.out hfi2 l.toArray (HRL6.out.bel (HB67.out.then_ hV)) 0 99)
  have HLE := Lib.hid (fun V (hV : Bel W7.drew V) => left_any (HLG6.out.disk.bel (HB67.out.then_ hV)) hf2.lo hf2.hi hf2.fit.files)
  have HRLE := Lib.hid (fun V (hV : Bel W7.drew V) => rdLeft_any (hd2.bel (HB67.out.then_ hV)) hf2)
  have HLO := Lib.hid (fun V (hV : Bel W7.drew V) => loose_any (HLG6.out.disk.bel (HB67.out.then_ hV)) hf2.fit.ne)
  have HWH7 := Lib.hid (fun V (hV : Bel W7.drew V) => HWH.out V ((HB6.out.then_ HB67.out).then_ hV))
  have hS0 := HKEEP.out _ (Bel.refl _)
  have HSZ8 : Hid (W7.drew.heap.size = w6.heap.size + 1) := by show _ = _; rw [hW7]; simp
  clear hcs2 hrc2 hth2 hbk hb67 hW7 hen hfi2 hd2 hf2
  clear hm2
  generalize m2.room - tot m2.files = K at *
  generalize m2.loose.length = nl at *
  try simp only [Act.put]
  --R2--
  refine wp_region_noPanic ?_
  refine wp_region_held_drew (S := (fun V : World => V.rangeAt w6.heap.size 0 l ∧ V.rangeAt w6.heap.size 0 l2 ∧ V.cell? ⟨w6.heap.size, 65, none⟩ = some (.slice A2 nl c2) ∧ (convert 31 9 (.slice A s.length cap)).run Tryd.prog V = .ok (.string ⟨s.toArray⟩) V)) (by kernel_rfl) ?_ (fun hH0 => ?_)
  · (try dsimp only); (first | assumption | exact hS0 | exact HKEEP.out _ (by assumption))
  refine wpAnyH_take (i := 0) (oi := _) (v := ?v0z) rfl (by kernel_rfl) (by kernel_rfl) (by kernel_rfl) ?hq0z (Or.inl ⟨by rfl, ?hy0z⟩) (by assumption) ?rest0z
  case hq0z => exact fun _ _ _ h => h
  case hy0z => (intro w hSw; (try dsimp only at hSw); go_simp; try with_reducible rfl)
  try simp only [Act.put, List.setIfInBounds_toArray, List.set_cons_zero, List.set_cons_succ]
  refine wpAnyH_take (i := 2) (oi := _) (v := ?v2z) rfl (by kernel_rfl) (by kernel_rfl) (by kernel_rfl) ?hq2z (Or.inl ⟨by rfl, ?hy2z⟩) (by assumption) ?rest2z
  case hq2z => exact fun _ _ _ h => h
  case hy2z => (intro w hSw; (try dsimp only at hSw); go_simp; try with_reducible rfl)
  try simp only [Act.put, List.setIfInBounds_toArray, List.set_cons_zero, List.set_cons_succ]
  refine wpAnyH_take (i := 5) (oi := _) (v := ?v5z) rfl (by kernel_rfl) (by kernel_rfl) (by kernel_rfl) ?hq5z (Or.inl ⟨by rfl, ?hy5z⟩) (by assumption) ?rest5z
  case hq5z => exact fun _ _ _ h => h
  case hy5z => (intro w hSw; (try dsimp only at hSw); go_simp; try with_reducible rfl)
  try simp only [Act.put, List.setIfInBounds_toArray, List.set_cons_zero, List.set_cons_succ]
  refine wpAnyH_ready (rs := [1]) (by kernel_rfl) (by simp) ?_
  refine AllReadyH.cons (o := _) rfl (fun K hK => ?_) AllReadyH.nil
  go_simp
  (go_at_call 22; refine (num10_any _ _).mono ?_; rintro e w' ⟨rfl, rfl⟩)
  try (go_wp2_with fail)
  refine hK.out _ _ ?_ (fun hH1 => ?_)
  · (try dsimp only); (first | assumption | exact hS0 | exact HKEEP.out _ (by assumption))
  clear hK K hH0
  try simp only [Act.put, List.setIfInBounds_toArray, List.set_cons_zero, List.set_cons_succ]
  refine wpAnyH_ready (rs := [3]) (by kernel_rfl) (by simp) ?_
  refine AllReadyH.cons (o := _) rfl (fun K hK => ?_) AllReadyH.nil
  go_simp
  (go_at_call 22; refine (num10_any _ _).mono ?_; rintro e w' ⟨rfl, rfl⟩)
  try (go_wp2_with fail)
  refine hK.out _ _ ?_ (fun hH2 => ?_)
  · (try dsimp only); (first | assumption | exact hS0 | exact HKEEP.out _ (by assumption))
  clear hK K hH1
  try simp only [Act.put, List.setIfInBounds_toArray, List.set_cons_zero, List.set_cons_succ]
  refine wpAnyH_take (i := 4) (oi := _) (v := .int .i64 0) rfl (by kernel_rfl) (by kernel_rfl) (by kernel_rfl) ?hq4z (Or.inl ⟨by rfl, ?hy4z⟩) (by assumption) ?rest4z
  case hq4z => exact fun _ _ _ h => h
  case hy4z => (intro V hSw; (try dsimp only at hSw); go_simp; try first | rfl | decide)
  try simp only [Act.put, List.setIfInBounds_toArray, List.set_cons_zero, List.set_cons_succ]
  refine wpAnyH_ready (rs := [6]) (by kernel_rfl) (by simp) ?_
  refine AllReadyH.cons (o := _) rfl (fun K hK => ?_) AllReadyH.nil
  go_simp
  (go_at_call 22; refine (num10_any _ _).mono ?_; rintro e w' ⟨rfl, rfl⟩)
  try (go_wp2_with fail)
  refine hK.out _ _ ?_ (fun hH3 => ?_)
  · (try dsimp only); (first | assumption | exact hS0 | exact HKEEP.out _ (by assumption))
  clear hK K hH2
  try simp only [Act.put, List.setIfInBounds_toArray, List.set_cons_zero, List.set_cons_succ]
  refine wpAnyH_take (i := 7) (oi := _) (v := .int .i64 0) rfl (by kernel_rfl) (by kernel_rfl) (by kernel_rfl) ?hq7z (Or.inl ⟨by rfl, ?hy7z⟩) (by assumption) ?rest7z
  case hq7z => exact fun _ _ _ h => h
  case hy7z => (intro V hSw; (try dsimp only at hSw); go_simp; try first | rfl | decide)
  try simp only [Act.put, List.setIfInBounds_toArray, List.set_cons_zero, List.set_cons_succ]
  refine wpAnyH_take (i := 8) (oi := _) (v := .bool false) rfl (by kernel_rfl) (by kernel_rfl) (by kernel_rfl) ?hq8z (Or.inl ⟨by rfl, ?hy8z⟩) (by assumption) ?rest8z
  case hq8z => exact fun _ _ _ h => h
  case hy8z => (intro V hSw; (try dsimp only at hSw); go_simp; try first | rfl | decide)
  try simp only [Act.put, List.setIfInBounds_toArray, List.set_cons_zero, List.set_cons_succ]
  refine wpAnyH_take (i := 9) (oi := _) (v := ?v9z) rfl (by kernel_rfl) (by kernel_rfl) (by kernel_rfl) ?hq9z (Or.inl ⟨by rfl, ?hy9z⟩) (by assumption) ?rest9z
  case hq9z => exact fun _ _ _ h => h
  case hy9z => (intro w hSw; (try dsimp only at hSw); go_simp; try with_reducible rfl)
  try simp only [Act.put, List.setIfInBounds_toArray, List.set_cons_zero, List.set_cons_succ]
  refine wpAnyH_take (i := 10) (oi := _) (v := ?v10z) rfl (by kernel_rfl) (by kernel_rfl) (by kernel_rfl) ?hq10z (Or.inl ⟨by rfl, ?hy10z⟩) (by assumption) ?rest10z
  case hq10z => exact fun _ _ _ h => h
  case hy10z => (intro w hSw; (try dsimp only at hSw); go_simp; try with_reducible rfl)
  try simp only [Act.put, List.setIfInBounds_toArray, List.set_cons_zero, List.set_cons_succ]
  refine wpAnyH_take (i := 12) (oi := _) (v := ?v12z) rfl (by kernel_rfl) (by kernel_rfl) (by kernel_rfl) ?hq12z (Or.inl ⟨by rfl, ?hy12z⟩) (by assumption) ?rest12z
  case hq12z => exact fun _ _ _ h => h
  case hy12z => (intro w hSw; (try dsimp only at hSw); go_simp; try with_reducible rfl)
  try simp only [Act.put, List.setIfInBounds_toArray, List.set_cons_zero, List.set_cons_succ]
  refine wpAnyH_take (i := 13) (oi := _) (v := ?v13z) rfl (by kernel_rfl) (by kernel_rfl) (by kernel_rfl) ?hq13z (Or.inl ⟨by rfl, ?hy13z⟩) (by assumption) ?rest13z
  case hq13z => exact fun _ _ _ h => h
  case hy13z => (intro V hSw; (try dsimp only at hSw); have hcv := hSw.2.2.2; go_simp; try with_reducible rfl)
  try simp only [Act.put, List.setIfInBounds_toArray, List.set_cons_zero, List.set_cons_succ]
  refine wpAnyH_ready (rs := [11]) (by kernel_rfl) (by simp) ?_
  refine AllReadyH.cons (o := _) rfl (fun K hK => ?_) AllReadyH.nil
  go_simp
  (go_at_call 29; refine (HWH7.out _ (Bel.refl _)).mono ?_; rintro e w8 ⟨rfl, hb8⟩)
  try (go_wp2_with fail)
  refine hK.out _ _ ?_ (fun hH4 => ?_)
  · (try dsimp only); (first | assumption | exact hS0 | exact HKEEP.out _ (by assumption))
  clear hK K hH3
  try simp only [Act.put, List.setIfInBounds_toArray, List.set_cons_zero, List.set_cons_succ]
  refine wpAnyH_ready (rs := [14]) (by kernel_rfl) (by simp) ?_
  refine AllReadyH.cons (o := _) rfl (fun K hK => ?_) AllReadyH.nil
  go_simp
  (go_at_call 30; refine (HRW.out _).mono ?_; rintro e w9 ⟨rfl, hb9⟩; have hc9 : Bel W7.drew w9 := Bel.then_ hb8 hb9)
  try (go_wp2_with fail)
  refine hK.out _ _ ?_ (fun hH5 => ?_)
  · (try dsimp only); (first | assumption | exact hS0 | exact HKEEP.out _ (by assumption))
  clear hK K hH4
  try simp only [Act.put, List.setIfInBounds_toArray, List.set_cons_zero, List.set_cons_succ]
  refine wpAnyH_take (i := 15) (oi := _) (v := ?v15z) rfl (by kernel_rfl) (by kernel_rfl) (by kernel_rfl) ?hq15z (Or.inl ⟨by rfl, ?hy15z⟩) (by assumption) ?rest15z
  case hq15z => exact fun _ _ _ h => h
  case hy15z => (intro w hSw; (try dsimp only at hSw); go_simp; try with_reducible rfl)
  try simp only [Act.put, List.setIfInBounds_toArray, List.set_cons_zero, List.set_cons_succ]
  refine wpAnyH_take (i := 16) (oi := _) (v := ?v16z) rfl (by kernel_rfl) (by kernel_rfl) (by kernel_rfl) ?hq16z (Or.inl ⟨by rfl, ?hy16z⟩) (by assumption) ?rest16z
  case hq16z => exact fun _ _ _ h => h
  case hy16z => (intro w hSw; (try dsimp only at hSw); go_simp; try with_reducible rfl)
  try simp only [Act.put, List.setIfInBounds_toArray, List.set_cons_zero, List.set_cons_succ]
  refine wpAnyH_take (i := 17) (oi := _) (v := ?v17z) rfl (by kernel_rfl) (by kernel_rfl) (by kernel_rfl) ?hq17z (Or.inl ⟨by rfl, ?hy17z⟩) (by assumption) ?rest17z
  case hq17z => exact fun _ _ _ h => h
  case hy17z => (intro w hSw; (try dsimp only at hSw); go_simp; try with_reducible rfl)
  try simp only [Act.put, List.setIfInBounds_toArray, List.set_cons_zero, List.set_cons_succ]
  refine wpAnyH_take (i := 18) (oi := _) (v := ?v18z) rfl (by kernel_rfl) (by kernel_rfl) (by kernel_rfl) ?hq18z (Or.inl ⟨by rfl, ?hy18z⟩) (by assumption) ?rest18z
  case hq18z => exact fun _ _ _ h => h
  case hy18z => (intro w hSw; (try dsimp only at hSw); go_simp; try with_reducible rfl)
  try simp only [Act.put, List.setIfInBounds_toArray, List.set_cons_zero, List.set_cons_succ]
  refine wpAnyH_take (i := 19) (oi := _) (v := _) rfl (by kernel_rfl) (by kernel_rfl) (by kernel_rfl) ?hq19z (yieldsIf_load_mid (by rfl) _ _ rfl w6.heap.size 0 rfl l _ (fun V hV => hV.1) hu65 rfl hi65) (by assumption) ?rest19z
  case hq19z => exact fun _ _ _ h => h
  try simp only [Act.put, List.setIfInBounds_toArray, List.set_cons_zero, List.set_cons_succ]
  refine wpAnyH_ready (rs := [20]) (by kernel_rfl) (by simp) ?_
  refine AllReadyH.cons (o := _) rfl (fun K hK => ?_) AllReadyH.nil
  go_simp
  (go_at_call 31; refine (HIS.out _ hc9).mono ?_; rintro e w10 ⟨rfl, hb10⟩; have hc10 : Bel W7.drew w10 := Bel.then_ hc9 hb10)
  try (go_wp2_with fail)
  refine hK.out _ _ ?_ (fun hH6 => ?_)
  · (try dsimp only); (first | assumption | exact hS0 | exact HKEEP.out _ (by assumption))
  clear hK K hH5
  try simp only [Act.put, List.setIfInBounds_toArray, List.set_cons_zero, List.set_cons_succ]
  refine wpAnyH_take (i := 21) (oi := _) (v := ?v21z) rfl (by kernel_rfl) (by kernel_rfl) (by kernel_rfl) ?hq21z (Or.inl ⟨by rfl, ?hy21z⟩) (by assumption) ?rest21z
  case hq21z => exact fun _ _ _ h => h
  case hy21z => (intro w hSw; (try dsimp only at hSw); go_simp; try with_reducible rfl)
  try simp only [Act.put, List.setIfInBounds_toArray, List.set_cons_zero, List.set_cons_succ]
  refine wpAnyH_take (i := 22) (oi := _) (v := ?v22z) rfl (by kernel_rfl) (by kernel_rfl) (by kernel_rfl) ?hq22z (Or.inl ⟨by rfl, ?hy22z⟩) (by assumption) ?rest22z
  case hq22z => exact fun _ _ _ h => h
  case hy22z => (intro w hSw; (try dsimp only at hSw); go_simp; try with_reducible rfl)
  try simp only [Act.put, List.setIfInBounds_toArray, List.set_cons_zero, List.set_cons_succ]
  refine wpAnyH_take (i := 23) (oi := _) (v := ?v23z) rfl (by kernel_rfl) (by kernel_rfl) (by kernel_rfl) ?hq23z (Or.inl ⟨by rfl, ?hy23z⟩) (by assumption) ?rest23z
  case hq23z => exact fun _ _ _ h => h
  case hy23z => (intro w hSw; (try dsimp only at hSw); go_simp; try with_reducible rfl)
  try simp only [Act.put, List.setIfInBounds_toArray, List.set_cons_zero, List.set_cons_succ]
  refine wpAnyH_take (i := 24) (oi := _) (v := ?v24z) rfl (by kernel_rfl) (by kernel_rfl) (by kernel_rfl) ?hq24z (Or.inl ⟨by rfl, ?hy24z⟩) (by assumption) ?rest24z
  case hq24z => exact fun _ _ _ h => h
  case hy24z => (intro w hSw; (try dsimp only at hSw); go_simp; try with_reducible rfl)
  try simp only [Act.put, List.setIfInBounds_toArray, List.set_cons_zero, List.set_cons_succ]
  refine wpAnyH_take (i := 26) (oi := _) (v := ?v26z) rfl (by kernel_rfl) (by kernel_rfl) (by kernel_rfl) ?hq26z (Or.inl ⟨by rfl, ?hy26z⟩) (by assumption) ?rest26z
  case hq26z => exact fun _ _ _ h => h
  case hy26z => (intro w hSw; (try dsimp only at hSw); go_simp; try with_reducible rfl)
  try simp only [Act.put, List.setIfInBounds_toArray, List.set_cons_zero, List.set_cons_succ]
  refine wpAnyH_take (i := 27) (oi := _) (v := _) rfl (by kernel_rfl) (by kernel_rfl) (by kernel_rfl) ?hq27z (yieldsIf_load_mid (by rfl) _ _ rfl w6.heap.size 0 rfl l2 _ (fun V hV => hV.2.1) hu37 rfl hi37) (by assumption) ?rest27z
  case hq27z => exact fun _ _ _ h => h
  try simp only [Act.put, List.setIfInBounds_toArray, List.set_cons_zero, List.set_cons_succ]
  refine wpAnyH_ready (rs := [25]) (by kernel_rfl) (by simp) ?_
  refine AllReadyH.cons (o := _) rfl (fun K hK => ?_) AllReadyH.nil
  go_simp
  (go_at_call 32; refine (HLE.out _ hc10).mono ?_; rintro e w11 ⟨rfl, hb11⟩; have hc11 : Bel W7.drew w11 := Bel.then_ hc10 hb11)
  try (go_wp2_with fail)
  refine hK.out _ _ ?_ (fun hH7 => ?_)
  · (try dsimp only); (first | assumption | exact hS0 | exact HKEEP.out _ (by assumption))
  clear hK K hH6
  try simp only [Act.put, List.setIfInBounds_toArray, List.set_cons_zero, List.set_cons_succ]
  refine wpAnyH_ready (rs := [28]) (by kernel_rfl) (by simp) ?_
  refine AllReadyH.cons (o := _) rfl (fun K hK => ?_) AllReadyH.nil
  go_simp
  (go_at_call 33; refine (HRLE.out _ hc11).mono ?_; rintro e w12 ⟨rfl, hb12⟩; have hc12 : Bel W7.drew w12 := Bel.then_ hc11 hb12)
  try (go_wp2_with fail)
  refine hK.out _ _ ?_ (fun hH8 => ?_)
  · (try dsimp only); (first | assumption | exact hS0 | exact HKEEP.out _ (by assumption))
  clear hK K hH7
  try simp only [Act.put, List.setIfInBounds_toArray, List.set_cons_zero, List.set_cons_succ]
  refine wpAnyH_take (i := 29) (oi := _) (v := ?v29z) rfl (by kernel_rfl) (by kernel_rfl) (by kernel_rfl) ?hq29z (Or.inl ⟨by rfl, ?hy29z⟩) (by assumption) ?rest29z
  case hq29z => exact fun _ _ _ h => h
  case hy29z => (intro w hSw; (try dsimp only at hSw); go_simp; try with_reducible rfl)
  try simp only [Act.put, List.setIfInBounds_toArray, List.set_cons_zero, List.set_cons_succ]
  refine wpAnyH_take (i := 30) (oi := _) (v := ?v30z) rfl (by kernel_rfl) (by kernel_rfl) (by kernel_rfl) ?hq30z (Or.inl ⟨by rfl, ?hy30z⟩) (by assumption) ?rest30z
  case hq30z => exact fun _ _ _ h => h
  case hy30z => (intro w hSw; (try dsimp only at hSw); go_simp; try with_reducible rfl)
  try simp only [Act.put, List.setIfInBounds_toArray, List.set_cons_zero, List.set_cons_succ]
  refine wpAnyH_take (i := 31) (oi := _) (v := ?v31z) rfl (by kernel_rfl) (by kernel_rfl) (by kernel_rfl) ?hq31z (Or.inl ⟨by rfl, ?hy31z⟩) (by assumption) ?rest31z
  case hq31z => exact fun _ _ _ h => h
  case hy31z => (intro w hSw; (try dsimp only at hSw); go_simp; try with_reducible rfl)
  try simp only [Act.put, List.setIfInBounds_toArray, List.set_cons_zero, List.set_cons_succ]
  refine wpAnyH_take (i := 32) (oi := _) (v := ?v32z) rfl (by kernel_rfl) (by kernel_rfl) (by kernel_rfl) ?hq32z (Or.inl ⟨by rfl, ?hy32z⟩) (by assumption) ?rest32z
  case hq32z => exact fun _ _ _ h => h
  case hy32z => (intro w hSw; (try dsimp only at hSw); go_simp; try with_reducible rfl)
  try simp only [Act.put, List.setIfInBounds_toArray, List.set_cons_zero, List.set_cons_succ]
  refine wpAnyH_take (i := 34) (oi := _) (v := ?v34z) rfl (by kernel_rfl) (by kernel_rfl) (by kernel_rfl) ?hq34z (Or.inl ⟨by rfl, ?hy34z⟩) (by assumption) ?rest34z
  case hq34z => exact fun _ _ _ h => h
  case hy34z => (intro w hSw; (try dsimp only at hSw); go_simp; try with_reducible rfl)
  try simp only [Act.put, List.setIfInBounds_toArray, List.set_cons_zero, List.set_cons_succ]
  refine wpAnyH_take (i := 35) (oi := _) (v := ?v35z) rfl (by kernel_rfl) (by kernel_rfl) (by kernel_rfl) ?hq35z (Or.inl ⟨by rfl, ?hy35z⟩) (by assumption) ?rest35z
  case hq35z => exact fun _ _ _ h => h
  case hy35z => (intro w hSw; (try dsimp only at hSw); go_simp; try with_reducible rfl)
  try simp only [Act.put, List.setIfInBounds_toArray, List.set_cons_zero, List.set_cons_succ]
  refine wpAnyH_take (i := 36) (oi := _) (v := ?v36z) rfl (by kernel_rfl) (by kernel_rfl) (by kernel_rfl) ?hq36z (Or.inl ⟨by rfl, ?hy36z⟩) (by assumption) ?rest36z
  case hq36z => exact fun _ _ _ h => h
  case hy36z => (intro w hSw; (try dsimp only at hSw); go_simp; try with_reducible rfl)
  try simp only [Act.put, List.setIfInBounds_toArray, List.set_cons_zero, List.set_cons_succ]
  refine wpAnyH_take (i := 37) (oi := _) (v := ?v37z) rfl (by kernel_rfl) (by kernel_rfl) (by kernel_rfl) ?hq37z (Or.inl ⟨by rfl, ?hy37z⟩) (by assumption) ?rest37z
  case hq37z => exact fun _ _ _ h => h
  case hy37z => (intro w hSw; (try dsimp only at hSw); go_simp; try with_reducible rfl)
  try simp only [Act.put, List.setIfInBounds_toArray, List.set_cons_zero, List.set_cons_succ]
  refine wpAnyH_ready (rs := [33]) (by kernel_rfl) (by simp) ?_
  refine AllReadyH.cons (o := _) rfl (fun K hK => ?_) AllReadyH.nil
  go_simp
  (go_at_call 16; refine (HLO.out _ hc12).mono ?_; rintro e w' ⟨rfl, rfl⟩)
  try (go_wp2_with fail)
  refine hK.out _ _ ?_ (fun hH9 => ?_)
  · (try dsimp only); (first | assumption | exact hS0 | exact HKEEP.out _ (by assumption))
  clear hK K hH8
  try simp only [Act.put, List.setIfInBounds_toArray, List.set_cons_zero, List.set_cons_succ]
  refine wpAnyH_take (i := 38) (oi := _) (v := ?v38z) rfl (by kernel_rfl) (by kernel_rfl) (by kernel_rfl) ?hq38z (Or.inl ⟨by rfl, ?hy38z⟩) (by assumption) ?rest38z
  case hq38z => exact fun _ _ _ h => h
  case hy38z => (intro w hSw; (try dsimp only at hSw); go_simp; try with_reducible rfl)
  try simp only [Act.put, List.setIfInBounds_toArray, List.set_cons_zero, List.set_cons_succ]
  refine wpAnyH_take (i := 39) (oi := _) (v := ?v39z) rfl (by kernel_rfl) (by kernel_rfl) (by kernel_rfl) ?hq39z (Or.inl ⟨by rfl, ?hy39z⟩) (by assumption) ?rest39z
  case hq39z => exact fun _ _ _ h => h
  case hy39z => (intro w hSw; (try dsimp only at hSw); go_simp; try with_reducible rfl)
  try simp only [Act.put, List.setIfInBounds_toArray, List.set_cons_zero, List.set_cons_succ]
  refine wpAnyH_done (by kernel_rfl) ?_ _
  refine NoPanic.normal ?_
  --R2END--
  have HB12 := Lib.hid ((HB6.out.then_ HB67.out).then_ hc12)
  have HC12 := Lib.hid ((HC6.out.then_ HB67.out).then_ hc12)
  clear hS0 HKEEP HIS HLE HRLE HLO HWH7 hb8 hb9 hb10 hb11 hb12 hc9 hc10 hc11 hc12
  obtain ⟨V0, hV0⟩ : ∃ V0, V0 = w12 := ⟨_, rfl⟩
  rw [← hV0]
  rw [← hV0] at HB12 HC12
  clear hV0
  by_cases hodd : s.length % 2 = 1
  · have hod : ((s.length : Int) % 2 == 1) = true := by simp; omega
    clear hodd
    go_wp2_with fail
    obtain ⟨p, hp⟩ : ∃ p : Option Addr, p = some ⟨V0.heap.size, 0, none⟩ := ⟨_, rfl⟩
    obtain ⟨V1, hV1⟩ : ∃ V1, V1 = V0.alloc (.cells #[.pointer none, .int .i64 0, .int .i64 0, .int .i64 0] 71) := ⟨_, rfl⟩
    rw [← hV1, ← hp]
    have HNL : Hid (NoLog V1 p) := by rw [hp, hV1]; exact .inr ⟨_, rfl, World.alloc_heap_new _ _⟩
    have HB13 : Hid (Bel w V1) := by rw [hV1]; exact HB12.out.then_ ((Bel.refl V0).alloc _)
    have HC13 : Hid (Bel (w.alloc (.cells #[.bool false] 4)) V1) := by rw [hV1]; exact HC12.out.then_ ((Bel.refl V0).alloc _)
    have HP1 : Hid (∀ a, p = some a → a.block < V1.heap.size) := by rw [hp, hV1]; intro a e; cases e; simp
    clear hp hV1 hod HB12
    refine (lAppend_no HNL.out (HG.out.bel HB13.out) (.slice A s.length cap)).mono ?_
    rintro e w14 ⟨rfl, hb14⟩
    have HB14 : Hid (Bel w w14) := HB13.out.then_ hb14
    have HC14 : Hid (Bel (w.alloc (.cells #[.bool false] 4)) w14) := HC13.out.then_ hb14
    have HNL4 : Hid (NoLog w14 p) := HNL.out.bel hb14
    have HP4 : Hid (∀ a, p = some a → a.block < w14.heap.size) := fun a e => Nat.lt_of_lt_of_le (HP1.out a e) hb14.size
    clear hb14 HNL HB13 HP1
    go_wp2_with fail
    refine (lRead_no HNL4.out 0).mono ?_
    rintro e w15 ⟨rfl, hb15⟩
    have HB15 : Hid (Bel w w15) := HB14.out.then_ hb15
    have HC15 : Hid (Bel (w.alloc (.cells #[.bool false] 4)) w15) := HC14.out.then_ hb15
    have HNL5 : Hid (NoLog w15 p) := HNL4.out.bel hb15
    have HP5 : Hid (∀ a, p = some a → a.block < w15.heap.size) := fun a e => Nat.lt_of_lt_of_le (HP4.out a e) hb15.size
    clear hb15 HNL4 HB14 HP4
    go_wp2_with fail
    refine (lopen_no (.inl rfl) (HG.out.bel HB15.out) 0).mono ?_
    rintro e w16 ⟨rfl, hb16⟩
    have HB16 : Hid (Bel w w16) := HB15.out.then_ hb16
    have HC16 : Hid (Bel (w.alloc (.cells #[.bool false] 4)) w16) := HC15.out.then_ hb16
    have HNL6 : Hid (NoLog w16 p) := HNL5.out.bel hb16
    have HP6 : Hid (∀ a, p = some a → a.block < w16.heap.size) := fun a e => Nat.lt_of_lt_of_le (HP5.out a e) hb16.size
    clear hb16 HNL5 HB15 HP5
    go_wp2_with (go_at_call 35; refine (each_any _ 0 ⟨_, rfl⟩ _).mono ?_; rintro e w' ⟨rfl, rfl⟩)
    obtain ⟨U, hU⟩ : ∃ U, U = (w16.alloc (.cells #[.pointer p] 49)).alloc (.cells #[.int .i64 0] 3) := ⟨_, rfl⟩
    rw [← hU]
    have hbU : Bel w16 U := by rw [hU]; exact ((Bel.refl w16).alloc _).alloc _
    have hszU : U.heap.size = w16.heap.size + 2 := by rw [hU]; simp
    have hcU1 : U.cell? ⟨w16.heap.size, 0, none⟩ = some (.pointer p) := by rw [hU]; go_simp
    have hcU2 : U.cell? ⟨w16.heap.size + 1, 0, none⟩ = some (.int .i64 0) := by rw [hU]; go_simp
    have hseq := each_seq_no 11 (by omega) (HNL6.out.bel hbU) (n₀ := w16.heap.size + 2) (B1 := w16.heap.size) (B2 := w16.heap.size + 1) (fun a e => by have := HP6.out a e; omega) (by omega) (by omega) (by omega) hcU1 0 hcU2
    have HNLU : Hid (NoLog U p) := HNL6.out.bel hbU
    have HBU : Hid (Bel w U) := HB16.out.then_ hbU
    have HCU : Hid (Bel (w.alloc (.cells #[.bool false] 4)) U) := HC16.out.then_ hbU
    have HSU := Lib.hid hszU
    clear hU hbU hcU1 hcU2 hszU HNL6 HP6 HB16
    refine wp_seqr_round 12 (by omega) (gf := 67) (bd := #[]) (lb := #[.pointer (some ⟨w16.heap.size, 0, none⟩), .pointer (some ⟨w16.heap.size + 1, 0, none⟩)]) rfl (enters_of Tryd.func67 (by kernel_rfl) rfl) hseq (by have := HSU.out; omega) (Below.refl _ _) (fun p vs V hE => by obtain ⟨A, e, _⟩ := hE; simp at e; rw [e]; rfl)
      (fun pre V => Bel U V) (fun c pre V => False) ?hI ?hIx ELog.own (Bel.refl U) ?hround ?hdone ?hstop
    case hI => exact ownFrom_below (Nat.le_refl _) (Nat.le_refl _)
    case hIx => exact fun c pre A B row hs hg hr => hs
    case hround =>
      intro l q vs V hE
      gi_wp2
      exact ⟨(by first | rfl | trivial), fun l pre rest Wb hxs => by simp at hxs⟩
    case hstop => exact fun D c pre q rest V hD hxs hi hdf => hi.elim
    case hdone =>
      intro D V hD hbel hdf
      have HDF := Lib.hid hdf
      have HNV : Hid (NoLog V p) := HNLU.out.bel hbel
      have HBV : Hid (Bel w V) := HBU.out.then_ hbel
      have HCV : Hid (Bel (w.alloc (.cells #[.bool false] 4)) V) := HCU.out.then_ hbel
      have HDD : Hid (w.heap.size ≤ D) := by show _ ≤ _; have := HBU.out.size; omega
      clear hdf hbel hD hseq HNLU HBU HSU
      go_wp2_with (first | (go_at_call 22; refine (num10_any _ _).mono ?_; rintro e w' ⟨rfl, rfl⟩) | (go_at_call 23; refine (lend_no HNV.out).mono ?_; rintro e w' ⟨rfl, rfl⟩) | (go_at_call 36; refine (ltorn_no HNV.out).mono ?_; rintro e w' ⟨rfl, rfl⟩))
      refine (HW _ HBV.out).out.mono ?_
      rintro e w20 ⟨rfl, hb20⟩
      have HB20 : Hid (Bel w w20) := HBV.out.then_ hb20
      have HC20 := HCV.out.then_ hb20
      have e2 := HC20.c HRES.out.1
      have f2 : w20.frozen? ⟨w.heap.size, 0, none⟩ = false := (Below.frozen HC20 (by show w.heap.size < _; simp)).trans HRES.out.2
      have d0 := hb20.deferred HDF.out
      clear HC20 hb20
      go_wp2
      have d1 := heap_setCell_deferred ⟨w.heap.size, 0, none⟩ (.bool true) d0
      have e9 : (w20.setCell ⟨w.heap.size, 0, none⟩ (.bool true)).cell? ⟨w.heap.size, 0, none⟩ = some (.bool true) := by go_simp
      have g1 := cell_putDeferred e9 d1 (.deferred none)
      exact leavesM_collected (D := D) d1 (leavesM_nil (v := .bool true) (by simp [results, Tryd.results6, go_sem, g1]) ⟨rfl, (HB20.out.setCell (Nat.le_refl _) _).putObj HDD.out _⟩)
  · have hod : ((s.length : Int) % 2 == 1) = false := by simp; omega
    clear hodd
    go_wp2_with fail
    obtain ⟨p, hp⟩ : ∃ p : Option Addr, p = none := ⟨_, rfl⟩
    obtain ⟨V1, hV1⟩ : ∃ V1, V1 = V0 := ⟨_, rfl⟩
    have HNL : Hid (NoLog V1 p) := by rw [hp]; exact .inl rfl
    have HB13 : Hid (Bel w V1) := by rw [hV1]; exact HB12.out
    have HC13 : Hid (Bel (w.alloc (.cells #[.bool false] 4)) V1) := by rw [hV1]; exact HC12.out
    have HP1 : Hid (∀ a, p = some a → a.block < V1.heap.size) := by rw [hp]; intro a e; cases e
    rw [← hV1]
    simp only [show (Value.pointer none) = Value.pointer p by rw [hp]]
    clear hp hV1 hod HB12
    refine (lAppend_no HNL.out (HG.out.bel HB13.out) (.slice A s.length cap)).mono ?_
    rintro e w14 ⟨rfl, hb14⟩
    have HB14 : Hid (Bel w w14) := HB13.out.then_ hb14
    have HC14 : Hid (Bel (w.alloc (.cells #[.bool false] 4)) w14) := HC13.out.then_ hb14
    have HNL4 : Hid (NoLog w14 p) := HNL.out.bel hb14
    have HP4 : Hid (∀ a, p = some a → a.block < w14.heap.size) := fun a e => Nat.lt_of_lt_of_le (HP1.out a e) hb14.size
    clear hb14 HNL HB13 HP1
    go_wp2_with fail
    refine (lRead_no HNL4.out 0).mono ?_
    rintro e w15 ⟨rfl, hb15⟩
    have HB15 : Hid (Bel w w15) := HB14.out.then_ hb15
    have HC15 : Hid (Bel (w.alloc (.cells #[.bool false] 4)) w15) := HC14.out.then_ hb15
    have HNL5 : Hid (NoLog w15 p) := HNL4.out.bel hb15
    have HP5 : Hid (∀ a, p = some a → a.block < w15.heap.size) := fun a e => Nat.lt_of_lt_of_le (HP4.out a e) hb15.size
    clear hb15 HNL4 HB14 HP4
    go_wp2_with fail
    refine (lopen_no (.inl rfl) (HG.out.bel HB15.out) 0).mono ?_
    rintro e w16 ⟨rfl, hb16⟩
    have HB16 : Hid (Bel w w16) := HB15.out.then_ hb16
    have HC16 : Hid (Bel (w.alloc (.cells #[.bool false] 4)) w16) := HC15.out.then_ hb16
    have HNL6 : Hid (NoLog w16 p) := HNL5.out.bel hb16
    have HP6 : Hid (∀ a, p = some a → a.block < w16.heap.size) := fun a e => Nat.lt_of_lt_of_le (HP5.out a e) hb16.size
    clear hb16 HNL5 HB15 HP5
    go_wp2_with (go_at_call 35; refine (each_any _ 0 ⟨_, rfl⟩ _).mono ?_; rintro e w' ⟨rfl, rfl⟩)
    obtain ⟨U, hU⟩ : ∃ U, U = (w16.alloc (.cells #[.pointer p] 49)).alloc (.cells #[.int .i64 0] 3) := ⟨_, rfl⟩
    rw [← hU]
    have hbU : Bel w16 U := by rw [hU]; exact ((Bel.refl w16).alloc _).alloc _
    have hszU : U.heap.size = w16.heap.size + 2 := by rw [hU]; simp
    have hcU1 : U.cell? ⟨w16.heap.size, 0, none⟩ = some (.pointer p) := by rw [hU]; go_simp
    have hcU2 : U.cell? ⟨w16.heap.size + 1, 0, none⟩ = some (.int .i64 0) := by rw [hU]; go_simp
    have hseq := each_seq_no 11 (by omega) (HNL6.out.bel hbU) (n₀ := w16.heap.size + 2) (B1 := w16.heap.size) (B2 := w16.heap.size + 1) (fun a e => by have := HP6.out a e; omega) (by omega) (by omega) (by omega) hcU1 0 hcU2
    have HNLU : Hid (NoLog U p) := HNL6.out.bel hbU
    have HBU : Hid (Bel w U) := HB16.out.then_ hbU
    have HCU : Hid (Bel (w.alloc (.cells #[.bool false] 4)) U) := HC16.out.then_ hbU
    have HSU := Lib.hid hszU
    clear hU hbU hcU1 hcU2 hszU HNL6 HP6 HB16
    refine wp_seqr_round 12 (by omega) (gf := 67) (bd := #[]) (lb := #[.pointer (some ⟨w16.heap.size, 0, none⟩), .pointer (some ⟨w16.heap.size + 1, 0, none⟩)]) rfl (enters_of Tryd.func67 (by kernel_rfl) rfl) hseq (by have := HSU.out; omega) (Below.refl _ _) (fun p vs V hE => by obtain ⟨A, e, _⟩ := hE; simp at e; rw [e]; rfl)
      (fun pre V => Bel U V) (fun c pre V => False) ?hI ?hIx ELog.own (Bel.refl U) ?hround ?hdone ?hstop
    case hI => exact ownFrom_below (Nat.le_refl _) (Nat.le_refl _)
    case hIx => exact fun c pre A B row hs hg hr => hs
    case hround =>
      intro l q vs V hE
      gi_wp2
      exact ⟨(by first | rfl | trivial), fun l pre rest Wb hxs => by simp at hxs⟩
    case hstop => exact fun D c pre q rest V hD hxs hi hdf => hi.elim
    case hdone =>
      intro D V hD hbel hdf
      have HDF := Lib.hid hdf
      have HNV : Hid (NoLog V p) := HNLU.out.bel hbel
      have HBV : Hid (Bel w V) := HBU.out.then_ hbel
      have HCV : Hid (Bel (w.alloc (.cells #[.bool false] 4)) V) := HCU.out.then_ hbel
      have HDD : Hid (w.heap.size ≤ D) := by show _ ≤ _; have := HBU.out.size; omega
      clear hdf hbel hD hseq HNLU HBU HSU
      go_wp2_with (first | (go_at_call 22; refine (num10_any _ _).mono ?_; rintro e w' ⟨rfl, rfl⟩) | (go_at_call 23; refine (lend_no HNV.out).mono ?_; rintro e w' ⟨rfl, rfl⟩) | (go_at_call 36; refine (ltorn_no HNV.out).mono ?_; rintro e w' ⟨rfl, rfl⟩))
      refine (HW _ HBV.out).out.mono ?_
      rintro e w20 ⟨rfl, hb20⟩
      have HB20 : Hid (Bel w w20) := HBV.out.then_ hb20
      have HC20 := HCV.out.then_ hb20
      have e2 := HC20.c HRES.out.1
      have f2 : w20.frozen? ⟨w.heap.size, 0, none⟩ = false := (Below.frozen HC20 (by show w.heap.size < _; simp)).trans HRES.out.2
      have d0 := hb20.deferred HDF.out
      clear HC20 hb20
      go_wp2
      have d1 := heap_setCell_deferred ⟨w.heap.size, 0, none⟩ (.bool true) d0
      have e9 : (w20.setCell ⟨w.heap.size, 0, none⟩ (.bool true)).cell? ⟨w.heap.size, 0, none⟩ = some (.bool true) := by go_simp
      have g1 := cell_putDeferred e9 d1 (.deferred none)
      exact leavesM_collected (D := D) d1 (leavesM_nil (v := .bool true) (by simp [results, Tryd.results6, go_sem, g1]) ⟨rfl, (HB20.out.setCell (Nat.le_refl _) _).putObj HDD.out _⟩)
end Go.Proofs.YthmigmiojifnkaaDoor
