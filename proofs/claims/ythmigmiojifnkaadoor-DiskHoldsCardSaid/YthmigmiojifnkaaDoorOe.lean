/-
  math/bits.Len64: how many bits a number has.
-/
import Derived.Test.YthmigmiojifnkaaDoorOc
set_option linter.unusedVariables false
set_option linter.unusedSimpArgs false
set_option linter.unusedVariables false
set_option linter.unusedSimpArgs false
namespace Go.Proofs.YthmigmiojifnkaaDoor
open Go.RowKit

set_option maxRecDepth 100000 in
set_option maxHeartbeats 2000000 in
theorem len64_000 (n : Nat) (h64 : n < 2 ^ 64) (h32 : n < 4294967296) (h16 : n < 65536) (h8 : n < 256) (w : World) : Calls Tryd.prog 105 #[.int .u64 n] w fun e w' => e = .returned (.int .i64 (0 + bl n : Nat)) ∧ w = w' := by
  have hlt : n < 256 := by omega
  have g32 : decide ((n : Int) ≥ 4294967296) = false := by simp; omega
  have g16 : decide ((n : Int) ≥ 65536) = false := by simp; omega
  have g8 : decide ((n : Int) ≥ 256) = false := by simp; omega
  clear h64 h32 h16 h8 
  go_enter Tryd.func105, Tryd.ntmps105
  go_wp2
  go_ret
  refine ⟨ret_int ?_, rfl⟩
  clear g32 g16 g8
  skip
  revert hlt
  revert n
  intro m h hlt
  revert h
  revert hlt
  revert m
  decide +kernel

set_option maxRecDepth 100000 in
set_option maxHeartbeats 2000000 in
theorem len64_001 (n : Nat) (h64 : n < 2 ^ 64) (h32 : n < 4294967296) (h16 : n < 65536) (h8 : 256 ≤ n) (m8 : Nat) (e8 : m8 = n / 256) (w : World) : Calls Tryd.prog 105 #[.int .u64 n] w fun e w' => e = .returned (.int .i64 (8 + bl m8 : Nat)) ∧ w = w' := by
  have hlt : m8 < 256 := by omega
  have g32 : decide ((n : Int) ≥ 4294967296) = false := by simp; omega
  have g16 : decide ((n : Int) ≥ 65536) = false := by simp; omega
  have g8 : decide ((n : Int) ≥ 256) = true := by simp; omega
  have d8 : (n : Int) / 256 = (m8 : Int) := by omega
  clear h64 h32 h16 h8 e8
  go_enter Tryd.func105, Tryd.ntmps105
  go_wp2
  go_ret
  refine ⟨ret_int ?_, rfl⟩
  clear g32 g16 g8
  clear d8
  revert hlt
  revert m8
  intro m h hlt
  revert h
  revert hlt
  revert m
  decide +kernel

set_option maxRecDepth 100000 in
set_option maxHeartbeats 2000000 in
theorem len64_010 (n : Nat) (h64 : n < 2 ^ 64) (h32 : n < 4294967296) (h16 : 65536 ≤ n) (m16 : Nat) (e16 : m16 = n / 65536) (h8 : m16 < 256) (w : World) : Calls Tryd.prog 105 #[.int .u64 n] w fun e w' => e = .returned (.int .i64 (16 + bl m16 : Nat)) ∧ w = w' := by
  have hlt : m16 < 256 := by omega
  have g32 : decide ((n : Int) ≥ 4294967296) = false := by simp; omega
  have g16 : decide ((n : Int) ≥ 65536) = true := by simp; omega
  have d16 : (n : Int) / 65536 = (m16 : Int) := by omega
  have g8 : decide ((m16 : Int) ≥ 256) = false := by simp; omega
  clear h64 h32 h16 h8 e16
  go_enter Tryd.func105, Tryd.ntmps105
  go_wp2
  go_ret
  refine ⟨ret_int ?_, rfl⟩
  clear g32 g16 g8
  clear d16
  revert hlt
  revert m16
  intro m h hlt
  revert h
  revert hlt
  revert m
  decide +kernel

set_option maxRecDepth 100000 in
set_option maxHeartbeats 2000000 in
theorem len64_011 (n : Nat) (h64 : n < 2 ^ 64) (h32 : n < 4294967296) (h16 : 65536 ≤ n) (m16 : Nat) (e16 : m16 = n / 65536) (h8 : 256 ≤ m16) (m8 : Nat) (e8 : m8 = m16 / 256) (w : World) : Calls Tryd.prog 105 #[.int .u64 n] w fun e w' => e = .returned (.int .i64 (24 + bl m8 : Nat)) ∧ w = w' := by
  have hlt : m8 < 256 := by omega
  have g32 : decide ((n : Int) ≥ 4294967296) = false := by simp; omega
  have g16 : decide ((n : Int) ≥ 65536) = true := by simp; omega
  have d16 : (n : Int) / 65536 = (m16 : Int) := by omega
  have g8 : decide ((m16 : Int) ≥ 256) = true := by simp; omega
  have d8 : (m16 : Int) / 256 = (m8 : Int) := by omega
  clear h64 h32 h16 h8 e16 e8
  go_enter Tryd.func105, Tryd.ntmps105
  go_wp2
  go_ret
  refine ⟨ret_int ?_, rfl⟩
  clear g32 g16 g8
  clear d16 d8
  revert hlt
  revert m8
  intro m h hlt
  revert h
  revert hlt
  revert m
  decide +kernel

set_option maxRecDepth 100000 in
set_option maxHeartbeats 2000000 in
theorem len64_100 (n : Nat) (h64 : n < 2 ^ 64) (h32 : 4294967296 ≤ n) (m32 : Nat) (e32 : m32 = n / 4294967296) (h16 : m32 < 65536) (h8 : m32 < 256) (w : World) : Calls Tryd.prog 105 #[.int .u64 n] w fun e w' => e = .returned (.int .i64 (32 + bl m32 : Nat)) ∧ w = w' := by
  have hlt : m32 < 256 := by omega
  have g32 : decide ((n : Int) ≥ 4294967296) = true := by simp; omega
  have d32 : (n : Int) / 4294967296 = (m32 : Int) := by omega
  have g16 : decide ((m32 : Int) ≥ 65536) = false := by simp; omega
  have g8 : decide ((m32 : Int) ≥ 256) = false := by simp; omega
  clear h64 h32 h16 h8 e32
  go_enter Tryd.func105, Tryd.ntmps105
  go_wp2
  go_ret
  refine ⟨ret_int ?_, rfl⟩
  clear g32 g16 g8
  clear d32
  revert hlt
  revert m32
  intro m h hlt
  revert h
  revert hlt
  revert m
  decide +kernel

set_option maxRecDepth 100000 in
set_option maxHeartbeats 2000000 in
theorem len64_101 (n : Nat) (h64 : n < 2 ^ 64) (h32 : 4294967296 ≤ n) (m32 : Nat) (e32 : m32 = n / 4294967296) (h16 : m32 < 65536) (h8 : 256 ≤ m32) (m8 : Nat) (e8 : m8 = m32 / 256) (w : World) : Calls Tryd.prog 105 #[.int .u64 n] w fun e w' => e = .returned (.int .i64 (40 + bl m8 : Nat)) ∧ w = w' := by
  have hlt : m8 < 256 := by omega
  have g32 : decide ((n : Int) ≥ 4294967296) = true := by simp; omega
  have d32 : (n : Int) / 4294967296 = (m32 : Int) := by omega
  have g16 : decide ((m32 : Int) ≥ 65536) = false := by simp; omega
  have g8 : decide ((m32 : Int) ≥ 256) = true := by simp; omega
  have d8 : (m32 : Int) / 256 = (m8 : Int) := by omega
  clear h64 h32 h16 h8 e32 e8
  go_enter Tryd.func105, Tryd.ntmps105
  go_wp2
  go_ret
  refine ⟨ret_int ?_, rfl⟩
  clear g32 g16 g8
  clear d32 d8
  revert hlt
  revert m8
  intro m h hlt
  revert h
  revert hlt
  revert m
  decide +kernel

set_option maxRecDepth 100000 in
set_option maxHeartbeats 2000000 in
theorem len64_110 (n : Nat) (h64 : n < 2 ^ 64) (h32 : 4294967296 ≤ n) (m32 : Nat) (e32 : m32 = n / 4294967296) (h16 : 65536 ≤ m32) (m16 : Nat) (e16 : m16 = m32 / 65536) (h8 : m16 < 256) (w : World) : Calls Tryd.prog 105 #[.int .u64 n] w fun e w' => e = .returned (.int .i64 (48 + bl m16 : Nat)) ∧ w = w' := by
  have hlt : m16 < 256 := by omega
  have g32 : decide ((n : Int) ≥ 4294967296) = true := by simp; omega
  have d32 : (n : Int) / 4294967296 = (m32 : Int) := by omega
  have g16 : decide ((m32 : Int) ≥ 65536) = true := by simp; omega
  have d16 : (m32 : Int) / 65536 = (m16 : Int) := by omega
  have g8 : decide ((m16 : Int) ≥ 256) = false := by simp; omega
  clear h64 h32 h16 h8 e32 e16
  go_enter Tryd.func105, Tryd.ntmps105
  go_wp2
  go_ret
  refine ⟨ret_int ?_, rfl⟩
  clear g32 g16 g8
  clear d32 d16
  revert hlt
  revert m16
  intro m h hlt
  revert h
  revert hlt
  revert m
  decide +kernel

set_option maxRecDepth 100000 in
set_option maxHeartbeats 2000000 in
theorem len64_111 (n : Nat) (h64 : n < 2 ^ 64) (h32 : 4294967296 ≤ n) (m32 : Nat) (e32 : m32 = n / 4294967296) (h16 : 65536 ≤ m32) (m16 : Nat) (e16 : m16 = m32 / 65536) (h8 : 256 ≤ m16) (m8 : Nat) (e8 : m8 = m16 / 256) (w : World) : Calls Tryd.prog 105 #[.int .u64 n] w fun e w' => e = .returned (.int .i64 (56 + bl m8 : Nat)) ∧ w = w' := by
  have hlt : m8 < 256 := by omega
  have g32 : decide ((n : Int) ≥ 4294967296) = true := by simp; omega
  have d32 : (n : Int) / 4294967296 = (m32 : Int) := by omega
  have g16 : decide ((m32 : Int) ≥ 65536) = true := by simp; omega
  have d16 : (m32 : Int) / 65536 = (m16 : Int) := by omega
  have g8 : decide ((m16 : Int) ≥ 256) = true := by simp; omega
  have d8 : (m16 : Int) / 256 = (m8 : Int) := by omega
  clear h64 h32 h16 h8 e32 e16 e8
  go_enter Tryd.func105, Tryd.ntmps105
  go_wp2
  go_ret
  refine ⟨ret_int ?_, rfl⟩
  clear g32 g16 g8
  clear d32 d16 d8
  revert hlt
  revert m8
  intro m h hlt
  revert h
  revert hlt
  revert m
  decide +kernel

theorem len64_any (n : Nat) (h64 : n < 2 ^ 64) (w : World) : Calls Tryd.prog 105 #[.int .u64 n] w fun e w' => e = .returned (.int .i64 (bl n)) ∧ w = w' := by
  by_cases a : 4294967296 ≤ n
  · rw [bl_shift n 32 a]
    by_cases b : 65536 ≤ n / 4294967296
    · rw [bl_shift (n / 2 ^ 32) 16 b]
      by_cases c : 256 ≤ n / 4294967296 / 65536
      · rw [bl_shift (n / 2 ^ 32 / 2 ^ 16) 8 c]
        have := len64_111 n h64 a _ rfl b _ rfl c _ rfl w
        rwa [show 56 + bl (n / 4294967296 / 65536 / 256) = 32 + (16 + (8 + bl (n / 2 ^ 32 / 2 ^ 16 / 2 ^ 8))) by simp only [← Nat.add_assoc]; try rfl] at this
      · have := len64_110 n h64 a _ rfl b _ rfl (by omega) w
        rwa [show 48 + bl (n / 4294967296 / 65536) = 32 + (16 + bl (n / 2 ^ 32 / 2 ^ 16)) by simp only [← Nat.add_assoc]; try rfl] at this
    · by_cases c : 256 ≤ n / 4294967296
      · rw [bl_shift (n / 2 ^ 32) 8 c]
        have := len64_101 n h64 a _ rfl (by omega) c _ rfl w
        rwa [show 40 + bl (n / 4294967296 / 256) = 32 + (8 + bl (n / 2 ^ 32 / 2 ^ 8)) by simp only [← Nat.add_assoc]; try rfl] at this
      · exact len64_100 n h64 a _ rfl (by omega) (by omega) w
  · by_cases b : 65536 ≤ n
    · rw [bl_shift n 16 b]
      by_cases c : 256 ≤ n / 65536
      · rw [bl_shift (n / 2 ^ 16) 8 c]
        have := len64_011 n h64 (by omega) b _ rfl c _ rfl w
        rwa [show 24 + bl (n / 65536 / 256) = 16 + (8 + bl (n / 2 ^ 16 / 2 ^ 8)) by simp only [← Nat.add_assoc]; try rfl] at this
      · exact len64_010 n h64 (by omega) b _ rfl (by omega) w
    · by_cases c : 256 ≤ n
      · rw [bl_shift n 8 c]
        exact len64_001 n h64 (by omega) (by omega) c _ rfl w
      · have := len64_000 n h64 (by omega) (by omega) (by omega) w
        rwa [Nat.zero_add] at this
theorem need_any (n : Nat) (h64 : n < 2 ^ 64) (w : World) : Calls Tryd.prog 93 #[.int .u64 n] w fun e w' => e = .returned (.int .i64 (needN n)) ∧ w = w' := by
  have HL := Lib.hid (len64_any n h64 w)
  have hb : bl n ≤ 64 := (bl_le_iff n 64).2 h64
  clear h64
  go_enter Tryd.func93, Tryd.ntmps93
  go_wp2_with (go_at_call 105; refine HL.out.mono ?_; rintro e w' ⟨rfl, rfl⟩)
  go_ret
  refine ⟨ret_int ?_, rfl⟩
  unfold needN
  omega

end Go.Proofs.YthmigmiojifnkaaDoor
