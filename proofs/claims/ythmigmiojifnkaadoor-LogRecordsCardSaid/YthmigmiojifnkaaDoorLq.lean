/-
  LogRecords: its walk.
-/
import Derived.Test.YthmigmiojifnkaaDoorLs
set_option linter.unusedVariables false
set_option linter.unusedSimpArgs false
set_option linter.unusedVariables false
set_option linter.unusedSimpArgs false
namespace Go.Proofs.YthmigmiojifnkaaDoor
open Go.RowKit

theorem made_reads (W : World) (n : Nat) (hn : n ≤ 70000) : Reads (W.alloc (.cells (madeCells #[.int .u8 0] n) 5)) (W.alloc (.cells (madeCells #[.int .u8 0] n) 5)).heap.size 1 (some ⟨W.heap.size, 0, none⟩) n ((List.replicate n (0 : UInt8)).map bv) := Reads.of_own (own_made W n (by unfold maxLen; omega))
theorem made_record (W : World) (n : Nat) (hn : n ≤ 60000) : Calls Tryd.prog 18 #[.slice (some ⟨W.heap.size, 0, none⟩) n n] (W.alloc (.cells (madeCells #[.int .u8 0] n) 5)) fun e w' => ∃ A c, e = .returned (.tuple #[.slice A (n + 8) c, .int .i64 0]) ∧ Bel W w' := by
  have h := record_any (List.replicate n 0) (some ⟨W.heap.size, 0, none⟩) n (by simpa using hn) (W.alloc (.cells (madeCells #[.int .u8 0] n) 5)) (by rw [List.length_replicate]; exact made_reads W n (by omega))
  rw [List.length_replicate] at h
  refine h.mono fun e w' ⟨A, c, he, _, hb⟩ => ?_
  rw [List.length_replicate] at he
  exact ⟨A, c, he, ((Bel.refl W).alloc _).then_ hb⟩
theorem made_record_long (W : World) (n : Nat) (hn : 60000 < n) : Calls Tryd.prog 18 #[.slice (some ⟨W.heap.size, 0, none⟩) n n] (W.alloc (.cells (madeCells #[.int .u8 0] n) 5)) fun e w' => e = .returned (.tuple #[.slice none 0 0, .int .i64 3]) ∧ Bel W w' := by
  have h := record_long (List.replicate n 0) (some ⟨W.heap.size, 0, none⟩) n (by simpa using hn) (W.alloc (.cells (madeCells #[.int .u8 0] n) 5))
  rw [List.length_replicate] at h
  exact h.mono fun e w' ⟨he, hw⟩ => ⟨he, by subst hw; exact (Bel.refl W).alloc _⟩
theorem made_app {w W : World} {bl bd : Nat} (h : OwnF w W bl bd big 0) (hg : ErrType w) (n : Nat) (hn : n ≤ 60000) :
    Calls Tryd.prog 21 #[.pointer (some ⟨bl, 0, none⟩), .slice (some ⟨W.heap.size, 0, none⟩) n n] (W.alloc (.cells (madeCells #[.int .u8 0] n) 5)) fun e w' => e = .returned (.tuple #[.int .i64 0, .int .i64 0]) ∧ Bel w w' := by
  have := f_app (h.bel ((Bel.refl W).alloc (.cells (madeCells #[.int .u8 0] n) 5))) hg (List.replicate n 0) (some ⟨W.heap.size, 0, none⟩) n (by simpa using hn) (by rw [List.length_replicate]; exact made_reads W n (by omega))
  rw [List.length_replicate] at this
  exact this
theorem made_app_long {w W : World} {bl bd : Nat} (h : OwnF w W bl bd big 0) (hg : ErrType w) (n : Nat) (hn : 60000 < n) :
    Calls Tryd.prog 21 #[.pointer (some ⟨bl, 0, none⟩), .slice (some ⟨W.heap.size, 0, none⟩) n n] (W.alloc (.cells (madeCells #[.int .u8 0] n) 5)) fun e w' => e = .returned (.tuple #[.int .i64 0, .int .i64 3]) ∧ OwnF w w' bl bd big 0 := by
  have := f_long (h.bel ((Bel.refl W).alloc (.cells (madeCells #[.int .u8 0] n) 5))) hg (List.replicate n 0) (some ⟨W.heap.size, 0, none⟩) n (by simpa using hn)
  rw [List.length_replicate] at this
  exact this
set_option maxRecDepth 100000 in
set_option maxHeartbeats 4000000 in
theorem lrecords_bad (A : Option Addr) (cap : Nat) (s : List UInt8) (more : Int) (hm : s.length ≤ maxLen) (hbad : ¬ (s.length ≤ 500 ∧ -1 ≤ more ∧ more ≤ 1)) (w : World) (hg : ErrType w) :
    Calls Tryd.prog 4 #[.slice A s.length cap, .int .i64 more] w fun e w' => e = .returned (.bool true) ∧ Bel w w' := by
  have HW := Lib.hid (l10works_any w hg)
  have hI : (s.length : Int) ≤ 9223372036854775807 := by unfold maxLen at hm; omega
  clear hg hm
  go_enter Tryd.func4, Tryd.ntmps4
  go_wp2_with fail
  all_goals
    first
    | (exfalso; omega)
    | (refine HW.out.mono ?_
       rintro e w2 ⟨rfl, hb2⟩
       have HB2 := Lib.hid hb2
       clear hb2
       go_wp2
       go_ret
       exact ⟨rfl, HB2.out⟩)
set_option maxRecDepth 100000 in
set_option maxHeartbeats 4000000 in
theorem lrecords_good (A : Option Addr) (cap : Nat) (s : List UInt8) (more : Int) (hs : s.length ≤ 500) (h1 : -1 ≤ more) (h2 : more ≤ 1) (hle : ¬ 0 < more) (w : World) (hg : ErrType w) (hr : Reads w w.heap.size 1 A s.length (s.map bv)) :
    Calls Tryd.prog 4 #[.slice A s.length cap, .int .i64 more] w fun e w' => e = .returned (.bool true) ∧ Bel w w' := by
  obtain ⟨N, hN⟩ : ∃ N : Nat, (60000 : Int) + more = N := ⟨(60000 + more).toNat, by omega⟩
  have HREC := Lib.hid (record_any s A cap (by omega) w hr)
  have HR := Lib.hid hr
  have HG := Lib.hid hg
  have HREF := fun W => Lib.hid (r10Record_any s (by omega) W)
  have hsI : (s.length : Int) ≤ 500 := by omega
  have hN6 : N ≤ 60000 := by omega
  have HN6 := Lib.hid hN6
  have hmk := fun W => make_bytes .i64 .i64 N (by omega) W
  rw [← hN] at hmk
  have hlenb : ((N : Int) + 8 == 60008 + more) = true := by simp; omega
  have HN := Lib.hid hN
  clear hN hr hg hs hN6
  go_enter Tryd.func4, Tryd.ntmps4
  go_wp2_with fail
  refine HREC.out.mono ?_
  rintro e w1 ⟨A1, c1, rfl, hown1, hb1⟩
  have HR1 := Lib.hid (Reads.of_own hown1)
  have HB1 := Lib.hid hb1
  have cvb := conv_reads cap (HR.out.belHeap hb1)
  unfold strV at cvb
  clear hown1 hb1 HREC
  go_wp2_with fail
  refine (HREF w1).out.mono ?_
  rintro e w2 ⟨rfl, hb2⟩
  have HB2 := Lib.hid hb2
  have HREC := Lib.hid (made_record w2 N HN6.out)
  clear hb2 HREF
  go_wp2_with fail
  refine HREC.out.mono ?_
  rintro e w3 ⟨A3, c3, rfl, hb3⟩
  have HB3 := Lib.hid hb3
  have HG3 := Lib.hid (HG.out.bel ((HB1.out.then_ HB2.out).then_ hb3))
  clear hb3 HREC
  go_wp2_with fail
  refine (new_any 100000 (by decide) (by decide) w3).mono ?_
  rintro e w4 ⟨bd, fp, rfl, hD, hf, hb4⟩
  have HOP := Lib.hid (f_open hD (HG3.out.bel hb4) hb4 hf)
  clear hD hf hb4
  go_wp2_with fail
  refine HOP.out.mono ?_
  rintro e w5 ⟨bl, rfl, hO5⟩
  have HAP := Lib.hid (made_app hO5 HG3.out N HN6.out)
  clear hO5 HOP
  go_wp2_with fail
  refine HAP.out.mono ?_
  rintro e w6 ⟨rfl, hb6⟩
  have hbr : Bel w1 w6 := (HB2.out.then_ HB3.out).then_ hb6
  have hr6 := HR1.out.belHeap hbr
  have cvr := conv_reads (s := recN s) c1 (by rw [recN_length]; exact hr6)
  rw [recN_length] at cvr
  unfold strV at cvr
  have HB6 := Lib.hid (HB1.out.then_ hbr)
  have HW := Lib.hid (l10works_any w6 (HG3.out.bel hb6))
  clear hb6 hbr hr6 HAP hmk
  go_wp2_with (first | (go_at_call 22; refine (num10_any _ _).mono ?_; rintro e w' ⟨rfl, rfl⟩) | (go_at_call 17; refine HW.out.mono ?_; rintro e w7 ⟨rfl, hb7⟩; have HB7 := Lib.hid (HB6.out.then_ hb7); clear hb7))
  go_ret
  exact ⟨rfl, HB7.out⟩
set_option maxRecDepth 100000 in
set_option maxHeartbeats 4000000 in
theorem lrecords_long (A : Option Addr) (cap : Nat) (s : List UInt8) (more : Int) (hs : s.length ≤ 500) (h1 : -1 ≤ more) (h2 : more ≤ 1) (hle : 0 < more) (w : World) (hg : ErrType w) (hr : Reads w w.heap.size 1 A s.length (s.map bv)) :
    Calls Tryd.prog 4 #[.slice A s.length cap, .int .i64 more] w fun e w' => e = .returned (.bool true) ∧ Bel w w' := by
  obtain ⟨N, hN⟩ : ∃ N : Nat, (60000 : Int) + more = N := ⟨(60000 + more).toNat, by omega⟩
  have HREC := Lib.hid (record_any s A cap (by omega) w hr)
  have HR := Lib.hid hr
  have HG := Lib.hid hg
  have HREF := fun W => Lib.hid (r10Record_any s (by omega) W)
  have hsI : (s.length : Int) ≤ 500 := by omega
  have hN6 : 60000 < N := by omega
  have hN7 : N ≤ 70000 := by omega
  have HN6 := Lib.hid hN6
  have hmk := fun W => make_bytes .i64 .i64 N (by omega) W
  rw [← hN] at hmk
  have HN := Lib.hid hN
  clear hN hr hg hs hN6
  go_enter Tryd.func4, Tryd.ntmps4
  go_wp2_with fail
  refine HREC.out.mono ?_
  rintro e w1 ⟨A1, c1, rfl, hown1, hb1⟩
  have HR1 := Lib.hid (Reads.of_own hown1)
  have HB1 := Lib.hid hb1
  have cvb := conv_reads cap (HR.out.belHeap hb1)
  unfold strV at cvb
  clear hown1 hb1 HREC
  go_wp2_with fail
  refine (HREF w1).out.mono ?_
  rintro e w2 ⟨rfl, hb2⟩
  have HB2 := Lib.hid hb2
  have HREC := Lib.hid (made_record_long w2 N HN6.out)
  clear hb2 HREF
  go_wp2_with fail
  refine HREC.out.mono ?_
  rintro e w3 ⟨rfl, hb3⟩
  have HB3 := Lib.hid hb3
  have HG3 := Lib.hid (HG.out.bel ((HB1.out.then_ HB2.out).then_ hb3))
  clear hb3 HREC
  go_wp2_with fail
  refine (new_any 100000 (by decide) (by decide) w3).mono ?_
  rintro e w4 ⟨bd, fp, rfl, hD, hf, hb4⟩
  have HOP := Lib.hid (f_open hD (HG3.out.bel hb4) hb4 hf)
  clear hD hf hb4
  go_wp2_with fail
  refine HOP.out.mono ?_
  rintro e w5 ⟨bl, rfl, hO5⟩
  have HAP := Lib.hid (made_app_long hO5 HG3.out N HN6.out)
  clear hO5 HOP
  go_wp2_with fail
  refine HAP.out.mono ?_
  rintro e w6 ⟨rfl, hO6⟩
  have hb6 := hO6.old
  have HE := Lib.hid (f_end hO6)
  clear hO6
  have hbr : Bel w1 w6 := (HB2.out.then_ HB3.out).then_ hb6
  have hr6 := HR1.out.belHeap hbr
  have cvr := conv_reads (s := recN s) c1 (by rw [recN_length]; exact hr6)
  rw [recN_length] at cvr
  unfold strV at cvr
  have HB6 := Lib.hid (HB1.out.then_ hbr)
  have HW := Lib.hid (l10works_any w6 (HG3.out.bel hb6))
  clear hb6 hbr hr6 HAP hmk
  go_wp2_with (first | (go_at_call 22; refine (num10_any _ _).mono ?_; rintro e w' ⟨rfl, rfl⟩) | (go_at_call 23; refine HE.out.mono ?_; rintro e w' ⟨rfl, rfl⟩) | (go_at_call 17; refine HW.out.mono ?_; rintro e w7 ⟨rfl, hb7⟩; have HB7 := Lib.hid (HB6.out.then_ hb7); clear hb7))
  go_ret
  exact ⟨rfl, HB7.out⟩
theorem lrecords_any (A : Option Addr) (cap : Nat) (s : List UInt8) (more : Int) (hm : s.length ≤ maxLen) (w : World) (hg : ErrType w) (hr : Reads w w.heap.size 1 A s.length (s.map bv)) :
    Calls Tryd.prog 4 #[.slice A s.length cap, .int .i64 more] w fun e w' => e = .returned (.bool true) ∧ Bel w w' := by
  by_cases h : s.length ≤ 500 ∧ -1 ≤ more ∧ more ≤ 1
  · by_cases hp : 0 < more
    · exact lrecords_long A cap s more h.1 h.2.1 h.2.2 hp w hg hr
    · exact lrecords_good A cap s more h.1 h.2.1 h.2.2 hp w hg hr
  · exact lrecords_bad A cap s more hm h w hg
end Go.Proofs.YthmigmiojifnkaaDoor
