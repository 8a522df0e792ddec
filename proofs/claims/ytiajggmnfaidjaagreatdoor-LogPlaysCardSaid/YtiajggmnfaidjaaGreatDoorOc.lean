/-
  octet: how many bytes a number needs; a number's bytes; the number of bytes.
-/
import Derived.Test.YtiajggmnfaidjaaGreatDoorDb
set_option linter.unusedVariables false
set_option linter.unusedSimpArgs false
set_option linter.unusedVariables false
set_option linter.unusedSimpArgs false
namespace Go.Proofs.YtiajggmnfaidjaaGreatDoor
open Go.RowKit

/-- How many bits a number has. -/
def bl (n : Nat) : Nat := if n = 0 then 0 else n.log2 + 1
/-- How many bytes a number needs. -/
def needN (n : Nat) : Nat := (bl n + 7) / 8
theorem bl_zero : bl 0 = 0 := rfl
theorem bl_le_iff (n k : Nat) : bl n ≤ k ↔ n < 2 ^ k := by
  unfold bl
  by_cases h : n = 0
  · subst h; simp [Nat.pow_pos]
  · rw [if_neg h]
    rw [← Nat.log2_lt h]
    omega
theorem bl_lt_iff (n k : Nat) : k < bl n ↔ 2 ^ k ≤ n := by
  have := bl_le_iff n k
  omega
theorem bl_shift (n k : Nat) (h : 2 ^ k ≤ n) : bl n = k + bl (n / 2 ^ k) := by
  apply Nat.le_antisymm
  · rw [bl_le_iff, Nat.pow_add]
    have h1 : n / 2 ^ k < 2 ^ bl (n / 2 ^ k) := (bl_le_iff _ _).1 (Nat.le_refl _)
    rw [Nat.div_lt_iff_lt_mul (Nat.pow_pos (by decide))] at h1
    rw [Nat.mul_comm]; exact h1
  · have hp : 0 < n / 2 ^ k := Nat.div_pos h (Nat.pow_pos (by decide))
    have hb : 0 < bl (n / 2 ^ k) := by rw [bl_lt_iff]; exact hp
    obtain ⟨j, hj⟩ : ∃ j, bl (n / 2 ^ k) = j + 1 := ⟨bl (n / 2 ^ k) - 1, by omega⟩
    have h2 : 2 ^ j ≤ n / 2 ^ k := (bl_lt_iff _ _).1 (by omega)
    have h3 : k + j < bl n := by
      rw [bl_lt_iff, Nat.pow_add]
      calc 2 ^ k * 2 ^ j ≤ 2 ^ k * (n / 2 ^ k) := Nat.mul_le_mul_left _ h2
        _ ≤ n := Nat.mul_div_le _ _
    omega
theorem needN_le_iff (n k : Nat) : needN n ≤ k ↔ n < 256 ^ k := by
  have : (256 : Nat) ^ k = 2 ^ (8 * k) := by rw [Nat.pow_mul]
  rw [this, ← bl_le_iff]
  unfold needN
  omega
/-- The bytes of a number, so many, the highest first. -/
def beN (n : Nat) : Nat → List UInt8
  | 0 => []
  | k + 1 => UInt8.ofNat (n / 256 ^ k % 256) :: beN n k
theorem beN_length (n : Nat) : ∀ k, (beN n k).length = k
  | 0 => rfl
  | k + 1 => by rw [beN, List.length_cons, beN_length n k]
/-- The number of bytes. -/
def numN (s : List UInt8) : Nat := s.foldl (fun n c => n * 256 + c.toNat) 0
theorem numN_snoc (s : List UInt8) (c : UInt8) : numN (s ++ [c]) = numN s * 256 + c.toNat := by simp [numN]
theorem numN_lt (s : List UInt8) : numN s < 256 ^ s.length := by
  have : ∀ (l : List UInt8), numN l.reverse < 256 ^ l.length := by
    intro l
    induction l with
    | nil => simp [numN]
    | cons c l ih =>
      rw [List.reverse_cons, numN_snoc, List.length_cons, Nat.pow_succ]
      have := c.toNat_lt
      have h2 : (numN l.reverse + 1) * 256 ≤ 256 ^ l.length * 256 := Nat.mul_le_mul_right _ ih
      omega
  have h := this s.reverse
  simpa using h
theorem beN_num (n : Nat) : ∀ k, n < 256 ^ k → numN (beN n k) = n := by
  have key : ∀ k m, (beN n k).foldl (fun n c => n * 256 + c.toNat) m = m * 256 ^ k + n % 256 ^ k := by
    intro k
    induction k with
    | zero => intro m; simp [beN, Nat.mod_one]
    | succ k ih =>
      intro m
      rw [beN, List.foldl_cons, ih]
      have h1 : (UInt8.ofNat (n / 256 ^ k % 256)).toNat = n / 256 ^ k % 256 := by simp
      rw [h1]
      have h2 : n % 256 ^ (k + 1) = 256 ^ k * (n / 256 ^ k % 256) + n % 256 ^ k := by
        rw [Nat.pow_succ, Nat.mod_mul]
        omega
      rw [h2, Nat.pow_succ, Nat.add_mul, Nat.mul_assoc, Nat.mul_comm 256 (256 ^ k), Nat.mul_comm (n / 256 ^ k % 256)]
      omega
  intro k hk
  have := key k 0
  unfold numN
  rw [this, Nat.mod_eq_of_lt hk]
  omega
/-! Bits of numbers. -/
theorem wrap_u64 (x : Nat) (h : x < 2 ^ 64) : IntKind.u64.wrap (x : Int) = x := by
  simp only [IntKind.wrap, IntKind.bits, IntKind.signed]
  simp
  omega
theorem wrap_u32 (x : Nat) (h : x < 2 ^ 32) : IntKind.u32.wrap (x : Int) = x := by
  simp only [IntKind.wrap, IntKind.bits, IntKind.signed]
  simp
  omega
theorem bits_or_u64 (x y : Nat) (hx : x < 2 ^ 64) (hy : y < 2 ^ 64) : bits .or .u64 (x : Int) (y : Int) = ((x ||| y : Nat) : Int) := by
  unfold bits
  have e : (BitVec.ofInt 64 (x : Int) ||| BitVec.ofInt 64 (y : Int)).toNat = x ||| y := by
    simp [BitVec.toNat_or, BitVec.toNat_ofInt]
    rw [Nat.mod_eq_of_lt (show x < 18446744073709551616 from hx), Nat.mod_eq_of_lt (show y < 18446744073709551616 from hy)]
  show IntKind.u64.wrap ((BitVec.ofInt 64 (x : Int) ||| BitVec.ofInt 64 (y : Int)).toNat : Int) = _
  rw [e]
  exact wrap_u64 _ (Nat.or_lt_two_pow hx hy)
theorem bits_xor_u32 (x y : Nat) (hx : x < 2 ^ 32) (hy : y < 2 ^ 32) : bits .xor .u32 (x : Int) (y : Int) = ((x ^^^ y : Nat) : Int) := by
  unfold bits
  have e : (BitVec.ofInt 32 (x : Int) ^^^ BitVec.ofInt 32 (y : Int)).toNat = x ^^^ y := by
    simp [BitVec.toNat_xor, BitVec.toNat_ofInt]
    rw [Nat.mod_eq_of_lt (show x < 4294967296 from hx), Nat.mod_eq_of_lt (show y < 4294967296 from hy)]
  show IntKind.u32.wrap ((BitVec.ofInt 32 (x : Int) ^^^ BitVec.ofInt 32 (y : Int)).toNat : Int) = _
  rw [e]
  exact wrap_u32 _ (Nat.xor_lt_two_pow hx hy)
theorem bits_and_u32 (x y : Nat) (hx : x < 2 ^ 32) (hy : y < 2 ^ 32) : bits .and .u32 (x : Int) (y : Int) = ((x &&& y : Nat) : Int) := by
  unfold bits
  have e : (BitVec.ofInt 32 (x : Int) &&& BitVec.ofInt 32 (y : Int)).toNat = x &&& y := by
    simp [BitVec.toNat_and, BitVec.toNat_ofInt]
    rw [Nat.mod_eq_of_lt (show x < 4294967296 from hx), Nat.mod_eq_of_lt (show y < 4294967296 from hy)]
  show IntKind.u32.wrap ((BitVec.ofInt 32 (x : Int) &&& BitVec.ofInt 32 (y : Int)).toNat : Int) = _
  rw [e]
  exact wrap_u32 _ (Nat.and_lt_two_pow _ hy)
theorem or_byte (m c : Nat) (hc : c < 256) : m * 256 ||| c = m * 256 + c := by
  have := Nat.shiftLeft_add_eq_or_of_lt (i := 8) (b := c) hc m
  rw [Nat.shiftLeft_eq] at this
  exact this.symm
end Go.Proofs.YtiajggmnfaidjaaGreatDoor

/-
  math/bits.Len64: how many bits a number has.
-/
set_option linter.unusedVariables false
set_option linter.unusedSimpArgs false
namespace Go.Proofs.YtiajggmnfaidjaaGreatDoor
open Go.RowKit

set_option maxRecDepth 100000 in
set_option maxHeartbeats 2000000 in
theorem len64_000 (n : Nat) (h64 : n < 2 ^ 64) (h32 : n < 4294967296) (h16 : n < 65536) (h8 : n < 256) (w : World) : Calls Tryz.prog 82 #[.int .u64 n] w fun e w' => e = .returned (.int .i64 (0 + bl n : Nat)) ∧ w = w' := by
  have hlt : n < 256 := by omega
  have g32 : decide ((n : Int) ≥ 4294967296) = false := by simp; omega
  have g16 : decide ((n : Int) ≥ 65536) = false := by simp; omega
  have g8 : decide ((n : Int) ≥ 256) = false := by simp; omega
  clear h64 h32 h16 h8 
  go_enter Tryz.func82, Tryz.ntmps82
  go_wp2
  go_ret
  refine ⟨ret_int ?_, rfl⟩
  clear g32 g16 g8
  skip
  revert hlt
  revert n
  intro m h hlt
  revert h
  revert hlt
  revert m
  decide +kernel

set_option maxRecDepth 100000 in
set_option maxHeartbeats 2000000 in
theorem len64_001 (n : Nat) (h64 : n < 2 ^ 64) (h32 : n < 4294967296) (h16 : n < 65536) (h8 : 256 ≤ n) (m8 : Nat) (e8 : m8 = n / 256) (w : World) : Calls Tryz.prog 82 #[.int .u64 n] w fun e w' => e = .returned (.int .i64 (8 + bl m8 : Nat)) ∧ w = w' := by
  have hlt : m8 < 256 := by omega
  have g32 : decide ((n : Int) ≥ 4294967296) = false := by simp; omega
  have g16 : decide ((n : Int) ≥ 65536) = false := by simp; omega
  have g8 : decide ((n : Int) ≥ 256) = true := by simp; omega
  have d8 : (n : Int) / 256 = (m8 : Int) := by omega
  clear h64 h32 h16 h8 e8
  go_enter Tryz.func82, Tryz.ntmps82
  go_wp2
  go_ret
  refine ⟨ret_int ?_, rfl⟩
  clear g32 g16 g8
  clear d8
  revert hlt
  revert m8
  intro m h hlt
  revert h
  revert hlt
  revert m
  decide +kernel

set_option maxRecDepth 100000 in
set_option maxHeartbeats 2000000 in
theorem len64_010 (n : Nat) (h64 : n < 2 ^ 64) (h32 : n < 4294967296) (h16 : 65536 ≤ n) (m16 : Nat) (e16 : m16 = n / 65536) (h8 : m16 < 256) (w : World) : Calls Tryz.prog 82 #[.int .u64 n] w fun e w' => e = .returned (.int .i64 (16 + bl m16 : Nat)) ∧ w = w' := by
  have hlt : m16 < 256 := by omega
  have g32 : decide ((n : Int) ≥ 4294967296) = false := by simp; omega
  have g16 : decide ((n : Int) ≥ 65536) = true := by simp; omega
  have d16 : (n : Int) / 65536 = (m16 : Int) := by omega
  have g8 : decide ((m16 : Int) ≥ 256) = false := by simp; omega
  clear h64 h32 h16 h8 e16
  go_enter Tryz.func82, Tryz.ntmps82
  go_wp2
  go_ret
  refine ⟨ret_int ?_, rfl⟩
  clear g32 g16 g8
  clear d16
  revert hlt
  revert m16
  intro m h hlt
  revert h
  revert hlt
  revert m
  decide +kernel

set_option maxRecDepth 100000 in
set_option maxHeartbeats 2000000 in
theorem len64_011 (n : Nat) (h64 : n < 2 ^ 64) (h32 : n < 4294967296) (h16 : 65536 ≤ n) (m16 : Nat) (e16 : m16 = n / 65536) (h8 : 256 ≤ m16) (m8 : Nat) (e8 : m8 = m16 / 256) (w : World) : Calls Tryz.prog 82 #[.int .u64 n] w fun e w' => e = .returned (.int .i64 (24 + bl m8 : Nat)) ∧ w = w' := by
  have hlt : m8 < 256 := by omega
  have g32 : decide ((n : Int) ≥ 4294967296) = false := by simp; omega
  have g16 : decide ((n : Int) ≥ 65536) = true := by simp; omega
  have d16 : (n : Int) / 65536 = (m16 : Int) := by omega
  have g8 : decide ((m16 : Int) ≥ 256) = true := by simp; omega
  have d8 : (m16 : Int) / 256 = (m8 : Int) := by omega
  clear h64 h32 h16 h8 e16 e8
  go_enter Tryz.func82, Tryz.ntmps82
  go_wp2
  go_ret
  refine ⟨ret_int ?_, rfl⟩
  clear g32 g16 g8
  clear d16 d8
  revert hlt
  revert m8
  intro m h hlt
  revert h
  revert hlt
  revert m
  decide +kernel

set_option maxRecDepth 100000 in
set_option maxHeartbeats 2000000 in
theorem len64_100 (n : Nat) (h64 : n < 2 ^ 64) (h32 : 4294967296 ≤ n) (m32 : Nat) (e32 : m32 = n / 4294967296) (h16 : m32 < 65536) (h8 : m32 < 256) (w : World) : Calls Tryz.prog 82 #[.int .u64 n] w fun e w' => e = .returned (.int .i64 (32 + bl m32 : Nat)) ∧ w = w' := by
  have hlt : m32 < 256 := by omega
  have g32 : decide ((n : Int) ≥ 4294967296) = true := by simp; omega
  have d32 : (n : Int) / 4294967296 = (m32 : Int) := by omega
  have g16 : decide ((m32 : Int) ≥ 65536) = false := by simp; omega
  have g8 : decide ((m32 : Int) ≥ 256) = false := by simp; omega
  clear h64 h32 h16 h8 e32
  go_enter Tryz.func82, Tryz.ntmps82
  go_wp2
  go_ret
  refine ⟨ret_int ?_, rfl⟩
  clear g32 g16 g8
  clear d32
  revert hlt
  revert m32
  intro m h hlt
  revert h
  revert hlt
  revert m
  decide +kernel

set_option maxRecDepth 100000 in
set_option maxHeartbeats 2000000 in
theorem len64_101 (n : Nat) (h64 : n < 2 ^ 64) (h32 : 4294967296 ≤ n) (m32 : Nat) (e32 : m32 = n / 4294967296) (h16 : m32 < 65536) (h8 : 256 ≤ m32) (m8 : Nat) (e8 : m8 = m32 / 256) (w : World) : Calls Tryz.prog 82 #[.int .u64 n] w fun e w' => e = .returned (.int .i64 (40 + bl m8 : Nat)) ∧ w = w' := by
  have hlt : m8 < 256 := by omega
  have g32 : decide ((n : Int) ≥ 4294967296) = true := by simp; omega
  have d32 : (n : Int) / 4294967296 = (m32 : Int) := by omega
  have g16 : decide ((m32 : Int) ≥ 65536) = false := by simp; omega
  have g8 : decide ((m32 : Int) ≥ 256) = true := by simp; omega
  have d8 : (m32 : Int) / 256 = (m8 : Int) := by omega
  clear h64 h32 h16 h8 e32 e8
  go_enter Tryz.func82, Tryz.ntmps82
  go_wp2
  go_ret
  refine ⟨ret_int ?_, rfl⟩
  clear g32 g16 g8
  clear d32 d8
  revert hlt
  revert m8
  intro m h hlt
  revert h
  revert hlt
  revert m
  decide +kernel

set_option maxRecDepth 100000 in
set_option maxHeartbeats 2000000 in
theorem len64_110 (n : Nat) (h64 : n < 2 ^ 64) (h32 : 4294967296 ≤ n) (m32 : Nat) (e32 : m32 = n / 4294967296) (h16 : 65536 ≤ m32) (m16 : Nat) (e16 : m16 = m32 / 65536) (h8 : m16 < 256) (w : World) : Calls Tryz.prog 82 #[.int .u64 n] w fun e w' => e = .returned (.int .i64 (48 + bl m16 : Nat)) ∧ w = w' := by
  have hlt : m16 < 256 := by omega
  have g32 : decide ((n : Int) ≥ 4294967296) = true := by simp; omega
  have d32 : (n : Int) / 4294967296 = (m32 : Int) := by omega
  have g16 : decide ((m32 : Int) ≥ 65536) = true := by simp; omega
  have d16 : (m32 : Int) / 65536 = (m16 : Int) := by omega
  have g8 : decide ((m16 : Int) ≥ 256) = false := by simp; omega
  clear h64 h32 h16 h8 e32 e16
  go_enter Tryz.func82, Tryz.ntmps82
  go_wp2
  go_ret
  refine ⟨ret_int ?_, rfl⟩
  clear g32 g16 g8
  clear d32 d16
  revert hlt
  revert m16
  intro m h hlt
  revert h
  revert hlt
  revert m
  decide +kernel

set_option maxRecDepth 100000 in
set_option maxHeartbeats 2000000 in
theorem len64_111 (n : Nat) (h64 : n < 2 ^ 64) (h32 : 4294967296 ≤ n) (m32 : Nat) (e32 : m32 = n / 4294967296) (h16 : 65536 ≤ m32) (m16 : Nat) (e16 : m16 = m32 / 65536) (h8 : 256 ≤ m16) (m8 : Nat) (e8 : m8 = m16 / 256) (w : World) : Calls Tryz.prog 82 #[.int .u64 n] w fun e w' => e = .returned (.int .i64 (56 + bl m8 : Nat)) ∧ w = w' := by
  have hlt : m8 < 256 := by omega
  have g32 : decide ((n : Int) ≥ 4294967296) = true := by simp; omega
  have d32 : (n : Int) / 4294967296 = (m32 : Int) := by omega
  have g16 : decide ((m32 : Int) ≥ 65536) = true := by simp; omega
  have d16 : (m32 : Int) / 65536 = (m16 : Int) := by omega
  have g8 : decide ((m16 : Int) ≥ 256) = true := by simp; omega
  have d8 : (m16 : Int) / 256 = (m8 : Int) := by omega
  clear h64 h32 h16 h8 e32 e16 e8
  go_enter Tryz.func82, Tryz.ntmps82
  go_wp2
  go_ret
  refine ⟨ret_int ?_, rfl⟩
  clear g32 g16 g8
  clear d32 d16 d8
  revert hlt
  revert m8
  intro m h hlt
  revert h
  revert hlt
  revert m
  decide +kernel

theorem len64_any (n : Nat) (h64 : n < 2 ^ 64) (w : World) : Calls Tryz.prog 82 #[.int .u64 n] w fun e w' => e = .returned (.int .i64 (bl n)) ∧ w = w' := by
  by_cases a : 4294967296 ≤ n
  · rw [bl_shift n 32 a]
    by_cases b : 65536 ≤ n / 4294967296
    · rw [bl_shift (n / 2 ^ 32) 16 b]
      by_cases c : 256 ≤ n / 4294967296 / 65536
      · rw [bl_shift (n / 2 ^ 32 / 2 ^ 16) 8 c]
        have := len64_111 n h64 a _ rfl b _ rfl c _ rfl w
        rwa [show 56 + bl (n / 4294967296 / 65536 / 256) = 32 + (16 + (8 + bl (n / 2 ^ 32 / 2 ^ 16 / 2 ^ 8))) by simp only [← Nat.add_assoc]; try rfl] at this
      · have := len64_110 n h64 a _ rfl b _ rfl (by omega) w
        rwa [show 48 + bl (n / 4294967296 / 65536) = 32 + (16 + bl (n / 2 ^ 32 / 2 ^ 16)) by simp only [← Nat.add_assoc]; try rfl] at this
    · by_cases c : 256 ≤ n / 4294967296
      · rw [bl_shift (n / 2 ^ 32) 8 c]
        have := len64_101 n h64 a _ rfl (by omega) c _ rfl w
        rwa [show 40 + bl (n / 4294967296 / 256) = 32 + (8 + bl (n / 2 ^ 32 / 2 ^ 8)) by simp only [← Nat.add_assoc]; try rfl] at this
      · exact len64_100 n h64 a _ rfl (by omega) (by omega) w
  · by_cases b : 65536 ≤ n
    · rw [bl_shift n 16 b]
      by_cases c : 256 ≤ n / 65536
      · rw [bl_shift (n / 2 ^ 16) 8 c]
        have := len64_011 n h64 (by omega) b _ rfl c _ rfl w
        rwa [show 24 + bl (n / 65536 / 256) = 16 + (8 + bl (n / 2 ^ 16 / 2 ^ 8)) by simp only [← Nat.add_assoc]; try rfl] at this
      · exact len64_010 n h64 (by omega) b _ rfl (by omega) w
    · by_cases c : 256 ≤ n
      · rw [bl_shift n 8 c]
        exact len64_001 n h64 (by omega) (by omega) c _ rfl w
      · have := len64_000 n h64 (by omega) (by omega) (by omega) w
        rwa [Nat.zero_add] at this
theorem need_any (n : Nat) (h64 : n < 2 ^ 64) (w : World) : Calls Tryz.prog 71 #[.int .u64 n] w fun e w' => e = .returned (.int .i64 (needN n)) ∧ w = w' := by
  have HL := Lib.hid (len64_any n h64 w)
  have hb : bl n ≤ 64 := (bl_le_iff n 64).2 h64
  clear h64
  go_enter Tryz.func71, Tryz.ntmps71
  go_wp2_with (go_at_call 82; refine HL.out.mono ?_; rintro e w' ⟨rfl, rfl⟩)
  go_ret
  refine ⟨ret_int ?_, rfl⟩
  unfold needN
  omega

end Go.Proofs.YtiajggmnfaidjaaGreatDoor

/-
  octet: walks.
-/
set_option linter.unusedVariables false
set_option linter.unusedSimpArgs false
namespace Go.Proofs.YtiajggmnfaidjaaGreatDoor
open Go.RowKit

theorem ofC_any (n : Nat) (i : Nat) (hi : i < 8) (b : Nat) (w : World) (hc : w.cell? ⟨b, 0, none⟩ = some (.int .u64 n)) : Calls Tryz.prog 83 #[.int .i64 i, .pointer (some ⟨b, 0, none⟩)] w fun e w' => e = .returned (.int .u8 ((n / 256 ^ i % 256 : Nat) : Int)) ∧ w = w' := by
  go_enter Tryz.func83, Tryz.ntmps83
  go_wp2
  go_ret
  refine ⟨ret_int ?_, rfl⟩
  have e : (256 : Nat) ^ i = 2 ^ (8 * i) := by rw [Nat.pow_mul]
  rw [e]
  simp
theorem of_any (n : Nat) (w : World) : Calls Tryz.prog 73 #[.int .u64 n] w fun e w' => e = .returned (.func (.func 83) #[] #[.pointer (some ⟨w.heap.size, 0, none⟩)]) ∧ w.alloc (.cells #[.int .u64 n] 116) = w' := by
  go_enter Tryz.func73, Tryz.ntmps73
  go_wp2
  go_ret
  exact ⟨rfl, rfl⟩
set_option maxRecDepth 100000 in
theorem number_any (s : List UInt8) (A : Option Addr) (cap : Nat) (hs : s.length ≤ 8) (w : World) (hr : Reads w w.heap.size 1 A s.length (s.map bv)) : Calls Tryz.prog 79 #[.slice A s.length cap] w fun e w' => e = .returned (.int .u64 (numN s)) ∧ w = w' := by
  have HR := Lib.hid hr
  have hlen : (s.length : Int) ≤ 8 := by omega
  clear hr hs
  go_enter Tryz.func79, Tryz.ntmps79
  go_wp2
  go_loopw [2, 7] (fun v i wr => ∃ k : Nat, k ≤ s.length ∧ i = .int .i64 k ∧ v = .int .u64 (numN (s.take k)) ∧ wr = w) (fun _ i _ => s.length - (intOf i).toNat)
  case atStart => exact ⟨0, Nat.zero_le _, rfl, rfl, rfl⟩
  case round =>
    obtain ⟨k, hk, rfl, rfl, rfl⟩ := hrel
    by_cases hlt : k < s.length
    · obtain ⟨ad, u, hA, hb, hu, hc⟩ := HR.out.at_ (k := k) hlt
      obtain ⟨c, hck⟩ : ∃ c, s[k]? = some c := ⟨_, List.getElem?_eq_getElem hlt⟩
      have huc : u = bv c := by rw [List.getElem?_map, hck] at hu; simpa using hu.symm
      subst hA
      subst huc
      have hcc : wr.cell? (ad.add k) = some (.int .u8 c.toNat) := hc
      have hnum : numN (s.take (k + 1)) = numN (s.take k) * 256 + c.toNat := by rw [List.take_add_one, hck]; exact numN_snoc _ _
      have hl : numN (s.take k) < 256 ^ 7 := Nat.lt_of_lt_of_le (numN_lt _) (Nat.pow_le_pow_right (by decide) (by simp; omega))
      have hc256 : c.toNat < 256 := c.toNat_lt
      have hcI : (c.toNat : Int) < 256 := by omega
      generalize numN (s.take k) = m at *
      have hor : bits .or .u64 ((m : Int) * 256) (c.toNat : Int) = ((m * 256 + c.toNat : Nat) : Int) := by
        have h1 : m * 256 < 2 ^ 64 := by have : (256 : Nat) ^ 7 * 256 = 2 ^ 64 := by decide
                                         omega
        have := bits_or_u64 (m * 256) c.toNat h1 (by omega)
        rw [or_byte _ _ hc256] at this
        rw [← this]
        simp
      clear hck hu hc hb HR
      go_wp2
      go_roundw
      case rel => exact ⟨k + 1, by omega, by go_num, by rw [hnum]; simp, trivial⟩
      case measure => simp [intOf]; omega
    · obtain rfl : k = s.length := by omega
      go_wp2
      go_ret
      exact ⟨by simp, rfl⟩
theorem reads1 (w : World) (T : TypeId) (u : Value) : Reads (w.alloc (.cells #[u] T)) (w.heap.size + 1) 1 (some ⟨w.heap.size, 0, none⟩) 1 [u] := by
  refine ⟨rfl, fun _ => ⟨_, rfl, by simp, fun j x hx => ?_⟩⟩
  have hj : j = 0 := by have := (List.getElem?_eq_some_iff.1 hx).1; simpa using this
  subst hj
  simp at hx
  subst hx
  simp [Addr.add]
theorem beN_at (n : Nat) : ∀ (k j : Nat), j < k → (beN n k)[j]? = some (UInt8.ofNat (n / 256 ^ (k - 1 - j) % 256))
  | 0, j, h => by omega
  | k + 1, 0, _ => by simp [beN]
  | k + 1, j + 1, h => by
    rw [beN, List.getElem?_cons_succ, beN_at n k j (by omega)]
    congr 5
    omega
/-- What laying so many bytes hands back: a row of the call's own, behind what was there. -/
def GivesRow (base n : Nat) (xs : List Value) (w : World) (e : Ending) (w' : World) : Prop := ∃ A c, e = .returned (.slice A n c) ∧ w'.ownsRow base 5 1 (.slice A n c) n xs ∧ Below base w w'
set_option maxRecDepth 100000 in
set_option maxHeartbeats 1000000 in
theorem laid_any (n many : Nat) (hm : many ≤ 8) (b base : Nat) (hb : b < base) (A : Option Addr) (m c : Nat) (xs : List Value) (hx : m ≤ 1000) (w : World) (hbase : base ≤ w.heap.size) (hown : w.ownsRow base 5 1 (.slice A m c) m xs) (hc : w.cell? ⟨b, 0, none⟩ = some (.int .u64 n)) :
    Calls Tryz.prog 72 #[.slice A m c, .int .i64 many, .func (.func 83) #[] #[.pointer (some ⟨b, 0, none⟩)]] w (GivesRow base (m + many) (xs ++ (beN n many).map bv) w) := by
  obtain ⟨i0, hi0, hz0, hz1, hz2⟩ := info_parts infoU8
  have HOWN := Lib.hid hown
  have HC := Lib.hid hc
  have hb0 : b < w.heap.size := by omega
  have hmI : (many : Int) ≤ 8 := by omega
  clear hown hc
  go_enter Tryz.func72, Tryz.ntmps72
  go_wp2
  go_loopw [0, 7] (fun v i wr => ∃ (k : Nat) (A : Option Addr) (c : Nat), k ≤ many ∧ i = .int .i64 ((many : Int) - 1 - k) ∧ v = .slice A (m + k) c ∧ Hid (wr.ownsRow base 5 1 (.slice A (m + k) c) (m + k) (xs ++ ((beN n many).take k).map bv) ∧ Below base w wr) ∧ base ≤ wr.heap.size) (fun _ i _ => (intOf i + 1).toNat)
  case atStart => exact ⟨0, A, c, Nat.zero_le _, by simp, rfl, ⟨by simpa using HOWN.out, Below.refl _ _⟩, hbase⟩
  case round =>
    obtain ⟨k, A, c, hk, rfl, rfl, HR, hsz⟩ := hrel
    by_cases hlt : k < many
    · have hcr : wr.cell? ⟨b, 0, none⟩ = some (.int .u64 n) := (HR.out.2.cell (p := ⟨b, 0, none⟩) hb).trans HC.out
      have hge : decide ((many : Int) - 1 - k ≥ 0) = true := by simp; omega
      have HOC := Lib.hid (ofC_any n (many - 1 - k) (by omega) b wr hcr)
      have hcast : ((many - 1 - k : Nat) : Int) = (many : Int) - 1 - k := by omega
      rw [hcast] at HOC
      have hval : bv (UInt8.ofNat (n / 256 ^ (many - 1 - k) % 256)) = .int .u8 ((n / 256 ^ (many - 1 - k) % 256 : Nat) : Int) := by
        unfold bv
        simp
      have hnext : (xs ++ ((beN n many).take k).map bv) ++ [.int .u8 ((n / 256 ^ (many - 1 - k) % 256 : Nat) : Int)] = xs ++ ((beN n many).take (k + 1)).map bv := by
        rw [List.take_add_one, beN_at n many k hlt, List.map_append, ← List.append_assoc, ← hval]
        rfl
      generalize hvv : ((n / 256 ^ (many - 1 - k) % 256 : Nat) : Int) = vv at *
      have HNX := Lib.hid hnext
      clear hcast hval hnext hcr
      go_wp2_with (first | (go_at_call 83; refine HOC.out.mono ?_; rintro e w' ⟨rfl, rfl⟩) | (at_builtin; refine wpList_append_any _ rfl (.tmp 14) (.tmp 18) _ rfl base 5 i0 _ 1 1 Tryz.underlying43 hi0 hz0 hz1 hz2 rfl (by omega) (.slice A (m + k) c) (m + k) (xs ++ ((beN n many).take k).map bv) rfl ?c1 (wr.heap.size + 1) (some ⟨wr.heap.size, 0, none⟩) 1 1 [.int .u8 vv] rfl ?c2 ?c3 ?c4 ?c5 ?c6 ?_))
      case c1 => exact HR.out.1.alloc _
      case c2 => exact reads1 wr _ _
      case c3 => simp [Value.oneCell']
      case c4 => unfold maxLen; omega
      case c5 => omega
      case c6 => simp; omega
      intro v1 w1 hown1 hg1 hat1
      have hown2 : w1.ownsRow base 5 1 v1 (m + k + 1) (xs ++ ((beN n many).take (k + 1)).map bv) := by rw [← HNX.out]; simpa using hown1
      obtain ⟨g, cap', rfl⟩ := ownsRow_succ hown2
      have hB1 : Below base w w1 := HR.out.2.trans (((Below.refl base wr).alloc hsz _).trans (Below.grown (Below.refl _ _) hg1 (by simp; omega) (fun j e => by have := (HR.out.1.lt j e).1; omega)))
      have HO1 := Lib.hid hown2
      have HB1 := Lib.hid hB1
      have hs1 : base ≤ w1.heap.size := by have := hg1.size; simp at this; omega
      clear hown1 hown2 hg1 hat1 hB1
      go_wp2
      go_roundw
      case rel => exact ⟨k + 1, _, _, by omega, by go_num, rfl, ⟨HO1.out, HB1.out⟩, hs1⟩
      case measure => simp [intOf]; omega
    · obtain rfl : k = many := by omega
      go_wp2
      go_ret
      refine ⟨A, c, rfl, ?_, HR.out.2⟩
      have := HR.out.1
      rwa [List.take_of_length_le (by rw [beN_length]; exact Nat.le_refl _)] at this
end Go.Proofs.YtiajggmnfaidjaaGreatDoor

/-
  octet: Fixed, ReadFixed, Sum.
-/
set_option linter.unusedVariables false
set_option linter.unusedSimpArgs false
namespace Go.Proofs.YtiajggmnfaidjaaGreatDoor
open Go.RowKit

theorem ownsRow_base {w : World} {b b' : Nat} {e : TypeId} {size n : Nat} {v : Value} {xs : List Value} (h : w.ownsRow b' e size v n xs) (hb : b ≤ b') : w.ownsRow b e size v n xs :=
  ⟨h.1, h.2.elim .inl (fun ⟨g, cap, cur, hv, hg, r⟩ => .inr ⟨g, cap, cur, hv, Nat.le_trans hb hg, r⟩)⟩
theorem ownsRow_bel {w w' : World} {base : Nat} {e : TypeId} {size : Nat} {v : Value} {n : Nat} {xs : List Value} (h : w.ownsRow base e size v n xs) (hb : Bel w w') : w'.ownsRow base e size v n xs := by
  refine ⟨h.1, ?_⟩
  rcases h.2 with h2 | ⟨g, cap, cur, hv, hg, hh, r⟩
  · exact .inl h2
  · exact .inr ⟨g, cap, cur, hv, hg, (hb.block g (Array.getElem?_eq_some_iff.1 hh).1).trans hh, r⟩
def GivesFixed (n many : Nat) (w : World) (e : Ending) (w' : World) : Prop := ∃ A c, e = .returned (.tuple #[.slice A many c, .int .i64 0]) ∧ w'.ownsRow w.heap.size 5 1 (.slice A many c) many ((beN n many).map bv) ∧ Bel w w'
theorem fixed_any (n many : Nat) (hn : n < 2 ^ 64) (h1 : 1 ≤ many) (h8 : many ≤ 8) (hneed : n < 256 ^ many) (w : World) : Calls Tryz.prog 57 #[.int .u64 n, .int .i64 many] w (GivesFixed n many w) := by
  have HN := Lib.hid (need_any n hn w)
  have g1 : decide ((many : Int) < 1) = false := by simp; omega
  have g2 : decide ((many : Int) > 8) = false := by simp; omega
  have hk : needN n ≤ many := (needN_le_iff n many).2 hneed
  have g3 : decide ((many : Int) < needN n) = false := by simp; omega
  have HL := Lib.hid (laid_any n many h8 w.heap.size (w.heap.size + 1) (by omega) none 0 0 [] (by omega) (w.alloc (.cells #[.int .u64 n] 116)) (by simp) (World.ownsRow_nil _ _ _ _) (by simp))
  have hk4 : ¬ many < needN n := by omega
  clear hn hneed hk
  go_enter Tryz.func57, Tryz.ntmps57
  go_wp2_with (first | (go_at_call 71; refine HN.out.mono ?_; rintro e w' ⟨rfl, rfl⟩) | (go_at_call 73; refine (of_any n _).mono ?_; rintro e w' ⟨rfl, rfl⟩) | (go_at_call 72; refine HL.out.mono ?_; rintro e w1 ⟨A, c, rfl, hown, hbel⟩))
  go_ret2
  refine ⟨A, c, by simp, ?_, ((Bel.refl w).alloc _).trans (Below.mono hbel (Nat.le_succ _))⟩
  have := ownsRow_base hown (Nat.le_succ _)
  simpa using this
theorem readFixed_any (s : List UInt8) (A : Option Addr) (cap : Nat) (h1 : 1 ≤ s.length) (h8 : s.length ≤ 8) (w : World) (hr : Reads w w.heap.size 1 A s.length (s.map bv)) : Calls Tryz.prog 63 #[.slice A s.length cap] w fun e w' => e = .returned (.tuple #[.int .u64 (numN s), .int .i64 0]) ∧ w = w' := by
  have HN := Lib.hid (number_any s A cap h8 w hr)
  have g1 : decide ((s.length : Int) < 1) = false := by simp; omega
  have g2 : decide ((s.length : Int) > 8) = false := by simp; omega
  clear hr h1 h8
  go_enter Tryz.func63, Tryz.ntmps63
  go_wp2_with (go_at_call 79; refine HN.out.mono ?_; rintro e w' ⟨rfl, rfl⟩)
  go_ret2
  exact ⟨rfl, rfl⟩
def crcBit (s : Nat) : Nat := (s / 2) ^^^ (2197175160 * (s % 2))
def crcBits (s : Nat) : Nat → Nat
  | 0 => s
  | k + 1 => crcBit (crcBits s k)
def crcByte (s : Nat) (c : UInt8) : Nat := crcBits (s ^^^ c.toNat) 8
def crcRaw (l : List UInt8) : Nat := l.foldl crcByte 4294967295
def crc (l : List UInt8) : Nat := 4294967295 ^^^ crcRaw l
theorem crcBit_lt {s : Nat} (h : s < 2 ^ 32) : crcBit s < 2 ^ 32 := by
  unfold crcBit
  refine Nat.xor_lt_two_pow (by omega) ?_
  rcases Nat.mod_two_eq_zero_or_one s with e | e <;> rw [e] <;> decide
theorem crcBits_lt {s : Nat} (h : s < 2 ^ 32) : ∀ k, crcBits s k < 2 ^ 32
  | 0 => h
  | k + 1 => crcBit_lt (crcBits_lt h k)
theorem crcByte_lt {s : Nat} (h : s < 2 ^ 32) (c : UInt8) : crcByte s c < 2 ^ 32 := crcBits_lt (Nat.xor_lt_two_pow h (Nat.lt_of_lt_of_le c.toNat_lt (by decide))) 8
theorem crcRaw_snoc (l : List UInt8) (c : UInt8) : crcRaw (l ++ [c]) = crcByte (crcRaw l) c := by simp [crcRaw]
theorem crcRaw_lt (l : List UInt8) : crcRaw l < 2 ^ 32 := by
  have : ∀ (l : List UInt8) (s : Nat), s < 2 ^ 32 → l.foldl crcByte s < 2 ^ 32 := by
    intro l
    induction l with
    | nil => intro s h; exact h
    | cons c l ih => intro s h; exact ih _ (crcByte_lt h c)
  exact this l _ (by decide)
theorem crc_lt (l : List UInt8) : crc l < 2 ^ 32 := Nat.xor_lt_two_pow (by decide) (crcRaw_lt l)
theorem crcBit_bits (s : Nat) (h : s < 2 ^ 32) : bits .xor .u32 ((s : Int) / 2) (2197175160 * bits .and .u32 (s : Int) 1 % 4294967296) = (crcBit s : Int) := by
  have h1 : bits .and .u32 (s : Int) 1 = ((s % 2 : Nat) : Int) := by
    have := bits_and_u32 s 1 h (by decide)
    rw [Nat.and_one_is_mod] at this
    exact this
  have h2 : (2197175160 * (s % 2) : Nat) < 2 ^ 32 := by omega
  rw [h1]
  have h3 : (2197175160 : Int) * ((s % 2 : Nat) : Int) % 4294967296 = ((2197175160 * (s % 2) : Nat) : Int) := by omega
  rw [h3]
  have h4 : (s : Int) / 2 = ((s / 2 : Nat) : Int) := by simp
  rw [h4, bits_xor_u32 _ _ (by omega) h2]
  rfl
set_option maxRecDepth 100000 in
set_option maxHeartbeats 1000000 in
theorem sum_one (s : List UInt8) (A : Option Addr) (cap B : Nat) (hs : s.length ≤ 1000000000) (w : World) (hr : Reads w w.heap.size 1 A s.length (s.map bv)) (hB : w.cell? ⟨B, 0, none⟩ = some (.slice A s.length cap)) :
    Calls Tryz.prog 35 #[.slice (some ⟨B, 0, none⟩) 1 1] w fun e w' => e = .returned (.int .u32 (crc s)) ∧ w = w' := by
  have HR := Lib.hid hr
  have hlen : (s.length : Int) ≤ 1000000000 := by omega
  clear hr hs
  go_enter Tryz.func35, Tryz.ntmps35
  go_wp2
  refine wp_loop_rounds 2 ?_
  rw [rounds_succ]
  go_wp2
  go_loopw [3, 16] (fun v i wr => ∃ k : Nat, k ≤ s.length ∧ i = .int .i64 k ∧ v = .int .u32 (crcRaw (s.take k)) ∧ wr = w) (fun _ i _ => s.length - (intOf i).toNat)
  case atStart => exact ⟨0, Nat.zero_le _, rfl, rfl, rfl⟩
  case round =>
    obtain ⟨k, hk, rfl, rfl, rfl⟩ := hrel
    by_cases hlt : k < s.length
    · obtain ⟨ad, u, hA, hb, hu, hc⟩ := HR.out.at_ (k := k) hlt
      obtain ⟨c, hck⟩ : ∃ c, s[k]? = some c := ⟨_, List.getElem?_eq_getElem hlt⟩
      have huc : u = bv c := by rw [List.getElem?_map, hck] at hu; simpa using hu.symm
      subst hA
      subst huc
      have hcc : wr.cell? (ad.add k) = some (.int .u8 c.toNat) := hc
      have hnum : crcRaw (s.take (k + 1)) = crcByte (crcRaw (s.take k)) c := by rw [List.take_add_one, hck]; exact crcRaw_snoc _ _
      have hl := crcRaw_lt (s.take k)
      have hc256 : c.toNat < 256 := c.toNat_lt
      have hcI : (c.toNat : Int) < 256 := by omega
      generalize crcRaw (s.take k) = m at *
      have hx := bits_xor_u32 m c.toNat hl (Nat.lt_of_lt_of_le hc256 (by decide))
      have hm : m ^^^ c.toNat < 2 ^ 32 := Nat.xor_lt_two_pow hl (Nat.lt_of_lt_of_le hc256 (by decide))
      have HNUM := Lib.hid hnum
      have HM := Lib.hid hm
      clear hck hu hc hb HR hnum hm hl
      go_wp2
      go_loopw [3, 24] (fun v i wx => ∃ j : Nat, j ≤ 8 ∧ i = .int .i64 j ∧ v = .int .u32 (crcBits (m ^^^ c.toNat) j) ∧ wx = wr) (fun _ i _ => 8 - (intOf i).toNat)
      case atStart => exact ⟨0, Nat.zero_le _, rfl, by first | rfl | (rw [hx]; rfl), rfl⟩
      case round =>
        obtain ⟨j, hj, rfl, rfl, rfl⟩ := hrel
        by_cases hj8 : j < 8
        · have hbit := crcBit_bits _ (crcBits_lt HM.out j)
          have hbl := crcBits_lt HM.out j
          go_wp2
          go_roundw
          case rel => exact ⟨j + 1, by omega, by go_num, by first | rfl | (rw [hbit]; rfl), by first | rfl | trivial⟩
          case measure => simp [intOf]; omega
        · obtain rfl : j = 8 := by omega
          go_wp2
          go_roundw
          case rel => exact ⟨k + 1, by omega, by go_num, by rw [HNUM.out]; rfl, by first | rfl | trivial⟩
          case measure => simp [intOf]; omega
    · obtain rfl : k = s.length := by omega
      go_wp2
      rw [rounds_succ]
      go_wp2
      go_ret
      refine ⟨?_, rfl⟩
      exact ret_int (bits_xor_u32 4294967295 (crcRaw s) (by decide) (crcRaw_lt s))
end Go.Proofs.YtiajggmnfaidjaaGreatDoor
