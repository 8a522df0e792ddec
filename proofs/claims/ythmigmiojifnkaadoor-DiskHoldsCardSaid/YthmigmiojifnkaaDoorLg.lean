/-
  The log: the record of bytes.
-/
import Derived.Test.YthmigmiojifnkaaDoorOf
set_option linter.unusedVariables false
set_option linter.unusedSimpArgs false
set_option linter.unusedVariables false
set_option linter.unusedSimpArgs false
namespace Go.Proofs.YthmigmiojifnkaaDoor
open Go.RowKit

def recN (s : List UInt8) : List UInt8 := beN s.length 4 ++ beN (crc s) 4 ++ s
theorem recN_length (s : List UInt8) : (recN s).length = s.length + 8 := by simp [recN, beN_length]; omega
set_option maxRecDepth 100000 in
theorem putI_one (n : Nat) (h : n < 2 ^ 32) (B : Nat) (w : World) (hB : w.cell? ⟨B, 0, none⟩ = some (.int .i64 n)) : Calls Tryd.prog 49 #[.slice (some ⟨B, 0, none⟩) 1 1] w (GivesRow w.heap.size 4 ((beN n 4).map bv) w) := by
  obtain ⟨i0, hi0, hz0, hz1, hz2⟩ := info_parts infoU8
  have HF := Lib.hid (fixed_any n 4 (by omega) (by decide) (by decide) (by omega) w)
  have hI : (n : Int) < 4294967296 := by omega
  go_enter Tryd.func49, Tryd.ntmps49
  go_wp2
  refine wp_loop_rounds 2 ?_
  rw [rounds_succ]
  go_wp2_with fail
  refine HF.out.mono ?_
  rintro e w1 ⟨A, c, rfl, hown, hbel⟩
  have HO := Lib.hid hown
  have HB := Lib.hid hbel
  clear hown hbel
  go_wp2_with (at_builtin; refine wpList_append_any _ rfl (.tmp 19) (.tmp 20) _ rfl w.heap.size 5 i0 _ 1 1 Tryd.underlying31 hi0 hz0 hz1 hz2 rfl (by omega) (.slice none 0 0) 0 [] rfl ?c1 w1.heap.size A 4 c ((beN n 4).map bv) rfl ?c2 (bv_one _) ?c3 ?c4 ?c5 ?_)
  case c1 => exact World.ownsRow_nil _ _ _ _
  case c2 => exact Reads.of_own HO.out
  case c3 => unfold maxLen; omega
  case c4 => omega
  case c5 => exact HB.out.size
  intro v1 w2 hown2 hg2 hat2
  have hown3 : w2.ownsRow w.heap.size 5 1 v1 (3 + 1) ((beN n 4).map bv) := by simpa using hown2
  obtain ⟨g, cap', rfl⟩ := ownsRow_succ hown3
  have HO3 := Lib.hid hown3
  have HB3 : Hid (Bel w w2) := Below.grown HB.out hg2 HB.out.size (fun j e => by cases e)
  clear hown2 hown3 hg2 hat2
  go_wp2
  rw [rounds_succ]
  go_wp2
  go_ret
  exact ⟨_, _, rfl, HO3.out, HB3.out⟩
set_option maxRecDepth 100000 in
theorem putU_one (n : Nat) (h : n < 2 ^ 32) (B : Nat) (w : World) (hB : w.cell? ⟨B, 0, none⟩ = some (.int .u32 n)) : Calls Tryd.prog 50 #[.slice (some ⟨B, 0, none⟩) 1 1] w (GivesRow w.heap.size 4 ((beN n 4).map bv) w) := by
  obtain ⟨i0, hi0, hz0, hz1, hz2⟩ := info_parts infoU8
  have HF := Lib.hid (fixed_any n 4 (by omega) (by decide) (by decide) (by omega) w)
  have hI : (n : Int) < 4294967296 := by omega
  go_enter Tryd.func50, Tryd.ntmps50
  go_wp2
  refine wp_loop_rounds 2 ?_
  rw [rounds_succ]
  go_wp2_with fail
  refine HF.out.mono ?_
  rintro e w1 ⟨A, c, rfl, hown, hbel⟩
  have HO := Lib.hid hown
  have HB := Lib.hid hbel
  clear hown hbel
  go_wp2_with (at_builtin; refine wpList_append_any _ rfl (.tmp 19) (.tmp 20) _ rfl w.heap.size 5 i0 _ 1 1 Tryd.underlying31 hi0 hz0 hz1 hz2 rfl (by omega) (.slice none 0 0) 0 [] rfl ?c1 w1.heap.size A 4 c ((beN n 4).map bv) rfl ?c2 (bv_one _) ?c3 ?c4 ?c5 ?_)
  case c1 => exact World.ownsRow_nil _ _ _ _
  case c2 => exact Reads.of_own HO.out
  case c3 => unfold maxLen; omega
  case c4 => omega
  case c5 => exact HB.out.size
  intro v1 w2 hown2 hg2 hat2
  have hown3 : w2.ownsRow w.heap.size 5 1 v1 (3 + 1) ((beN n 4).map bv) := by simpa using hown2
  obtain ⟨g, cap', rfl⟩ := ownsRow_succ hown3
  have HO3 := Lib.hid hown3
  have HB3 : Hid (Bel w w2) := Below.grown HB.out hg2 HB.out.size (fun j e => by cases e)
  clear hown2 hown3 hg2 hat2
  go_wp2
  rw [rounds_succ]
  go_wp2
  go_ret
  exact ⟨_, _, rfl, HO3.out, HB3.out⟩
def GivesRec (s : List UInt8) (w : World) (e : Ending) (w' : World) : Prop := ∃ A c, e = .returned (.tuple #[.slice A (s.length + 8) c, .int .i64 0]) ∧ w'.ownsRow w.heap.size 5 1 (.slice A (s.length + 8) c) (s.length + 8) ((recN s).map bv) ∧ Bel w w'
theorem record_long (s : List UInt8) (A : Option Addr) (cap : Nat) (hs : 60000 < s.length) (w : World) : Calls Tryd.prog 18 #[.slice A s.length cap] w fun e w' => e = .returned (.tuple #[.slice none 0 0, .int .i64 3]) ∧ w = w' := by
  go_enter Tryd.func18, Tryd.ntmps18
  go_wp2
  go_ret2
  exact ⟨rfl, rfl⟩
theorem Reads.belHeap {w w' : World} {size n : Nat} {A : Option Addr} {xs : List Value} (h : Reads w w.heap.size size A n xs) (hb : Bel w w') : Reads w' w'.heap.size size A n xs := (h.below hb).more hb.size
set_option maxRecDepth 100000 in
set_option maxHeartbeats 1000000 in
theorem record_any (s : List UInt8) (A : Option Addr) (cap : Nat) (hs : s.length ≤ 60000) (w : World) (hr : Reads w w.heap.size 1 A s.length (s.map bv)) : Calls Tryd.prog 18 #[.slice A s.length cap] w (GivesRec s w) := by
  obtain ⟨i0, hi0, hz0, hz1, hz2⟩ := info_parts infoU8
  have HR := Lib.hid hr
  have hlen : (s.length : Int) ≤ 60000 := by omega
  have hk : ¬ 60000 < s.length := by omega
  clear hr
  go_enter Tryd.func18, Tryd.ntmps18
  go_wp2_with fail
  refine (putI_one s.length (by omega) w.heap.size _ (by go_simp)).mono ?_
  rintro e w1 ⟨A1, c1, rfl, hown1, hbel1⟩
  have hb1 : Bel w w1 := ((Bel.refl w).alloc _).trans (Below.mono hbel1 (by simp))
  have HB1 := Lib.hid hb1
  have HO1 := Lib.hid (ownsRow_base (b := w.heap.size) hown1 (by simp))
  have HS := Lib.hid (sum_one s A cap w1.heap.size (by omega) (w1.alloc (.cells #[.slice A s.length cap] 31)) (HR.out.belHeap (hb1.alloc _)) (by simp))
  clear hown1 hbel1 hb1
  go_wp2_with fail
  refine HS.out.mono ?_
  rintro e w' ⟨rfl, rfl⟩
  go_wp2_with fail
  refine (putU_one (crc s) (crc_lt s) (w1.heap.size + 1) _ (by go_simp)).mono ?_
  rintro e w2 ⟨A2, c2, rfl, hown2, hbel2⟩
  have hb12 : Bel w1 w2 := ((((Bel.refl w1).alloc _).alloc _)).trans (Below.mono hbel2 (by simp; omega))
  have HB12 := Lib.hid hb12
  have HO2 := Lib.hid hown2
  clear hown2 hbel2 hb12
  go_wp2_with (at_builtin; refine wpList_append_any _ rfl (.tmp 10) (.tmp 15) _ rfl w.heap.size 5 i0 _ 1 1 Tryd.underlying31 hi0 hz0 hz1 hz2 rfl (by omega) (.slice A1 4 c1) 4 ((beN s.length 4).map bv) rfl ?c1 w2.heap.size A2 4 c2 ((beN (crc s) 4).map bv) rfl ?c2 (bv_one _) ?c3 ?c4 ?c5 ?_)
  case c1 => exact ownsRow_bel HO1.out HB12.out
  case c2 => exact Reads.of_own HO2.out
  case c3 => unfold maxLen; omega
  case c4 => omega
  case c5 => exact Nat.le_trans HB1.out.size HB12.out.size
  intro v3 w3 hown3 hg3 hat3
  have hb3 : Bel w w3 := Below.grown (HB1.out.then_ HB12.out) hg3 (Nat.le_trans HB1.out.size HB12.out.size) (fun j e => (HO1.out.lt j e).1)
  have hown3' : w3.ownsRow w.heap.size 5 1 v3 (7 + 1) ((beN s.length 4 ++ beN (crc s) 4).map bv) := by simpa using hown3
  obtain ⟨g3, c3, rfl⟩ := ownsRow_succ hown3'
  have HB3 := Lib.hid hb3
  have HO3 := Lib.hid hown3'
  clear hown3 hown3' hg3 hat3 hb3
  go_wp2_with (at_builtin; refine wpList_append_any _ rfl (.tmp 16) (.tmp 17) _ rfl w.heap.size 5 i0 _ 1 1 Tryd.underlying31 hi0 hz0 hz1 hz2 rfl (by omega) (.slice (some ⟨g3, 0, none⟩) (7 + 1) c3) (7 + 1) ((beN s.length 4 ++ beN (crc s) 4).map bv) rfl ?d1 w3.heap.size A s.length cap (s.map bv) rfl ?d2 (bv_one _) ?d3 ?d4 ?d5 ?_)
  case d1 => exact HO3.out
  case d2 => exact HR.out.belHeap HB3.out
  case d3 => unfold maxLen; omega
  case d4 => omega
  case d5 => exact HB3.out.size
  intro v4 w4 hown4 hg4 hat4
  have hb4 : Bel w w4 := Below.grown HB3.out hg4 HB3.out.size (fun j e => (HO3.out.lt j e).1)
  have hown4' : w4.ownsRow w.heap.size 5 1 v4 ((s.length + 7) + 1) ((recN s).map bv) := by
    have e : 7 + 1 + s.length = s.length + 7 + 1 := by omega
    rw [e] at hown4
    simpa [recN] using hown4
  obtain ⟨g4, c4, rfl⟩ := ownsRow_succ hown4'
  have HB4 := Lib.hid hb4
  have HO4 := Lib.hid hown4'
  clear hown4 hown4' hg4 hat4 hb4
  go_wp2
  go_ret2
  exact ⟨_, c4, rfl, HO4.out, HB4.out⟩
end Go.Proofs.YthmigmiojifnkaaDoor
