/-
  octet: how many bytes a number needs; a number's bytes; the number of bytes.
-/
import Derived.Test.YthmigmiojifnkaaDoorDb
set_option linter.unusedVariables false
set_option linter.unusedSimpArgs false
set_option linter.unusedVariables false
set_option linter.unusedSimpArgs false
namespace Go.Proofs.YthmigmiojifnkaaDoor
open Go.RowKit

/-- How many bits a number has. -/
def bl (n : Nat) : Nat := if n = 0 then 0 else n.log2 + 1
/-- How many bytes a number needs. -/
def needN (n : Nat) : Nat := (bl n + 7) / 8
theorem bl_zero : bl 0 = 0 := rfl
theorem bl_le_iff (n k : Nat) : bl n ≤ k ↔ n < 2 ^ k := by
  unfold bl
  by_cases h : n = 0
  · subst h; simp [Nat.pow_pos]
  · rw [if_neg h]
    rw [← Nat.log2_lt h]
    omega
theorem bl_lt_iff (n k : Nat) : k < bl n ↔ 2 ^ k ≤ n := by
  have := bl_le_iff n k
  omega
theorem bl_shift (n k : Nat) (h : 2 ^ k ≤ n) : bl n = k + bl (n / 2 ^ k) := by
  apply Nat.le_antisymm
  · rw [bl_le_iff, Nat.pow_add]
    have h1 : n / 2 ^ k < 2 ^ bl (n / 2 ^ k) := (bl_le_iff _ _).1 (Nat.le_refl _)
    rw [Nat.div_lt_iff_lt_mul (Nat.pow_pos (by decide))] at h1
    rw [Nat.mul_comm]; exact h1
  · have hp : 0 < n / 2 ^ k := Nat.div_pos h (Nat.pow_pos (by decide))
    have hb : 0 < bl (n / 2 ^ k) := by rw [bl_lt_iff]; exact hp
    obtain ⟨j, hj⟩ : ∃ j, bl (n / 2 ^ k) = j + 1 := ⟨bl (n / 2 ^ k) - 1, by omega⟩
    have h2 : 2 ^ j ≤ n / 2 ^ k := (bl_lt_iff _ _).1 (by omega)
    have h3 : k + j < bl n := by
      rw [bl_lt_iff, Nat.pow_add]
      calc 2 ^ k * 2 ^ j ≤ 2 ^ k * (n / 2 ^ k) := Nat.mul_le_mul_left _ h2
        _ ≤ n := Nat.mul_div_le _ _
    omega
theorem needN_le_iff (n k : Nat) : needN n ≤ k ↔ n < 256 ^ k := by
  have : (256 : Nat) ^ k = 2 ^ (8 * k) := by rw [Nat.pow_mul]
  rw [this, ← bl_le_iff]
  unfold needN
  omega
/-- The bytes of a number, so many, the highest first. -/
def beN (n : Nat) : Nat → List UInt8
  | 0 => []
  | k + 1 => UInt8.ofNat (n / 256 ^ k % 256) :: beN n k
theorem beN_length (n : Nat) : ∀ k, (beN n k).length = k
  | 0 => rfl
  | k + 1 => by rw [beN, List.length_cons, beN_length n k]
/-- The number of bytes. -/
def numN (s : List UInt8) : Nat := s.foldl (fun n c => n * 256 + c.toNat) 0
theorem numN_snoc (s : List UInt8) (c : UInt8) : numN (s ++ [c]) = numN s * 256 + c.toNat := by simp [numN]
theorem numN_lt (s : List UInt8) : numN s < 256 ^ s.length := by
  have : ∀ (l : List UInt8), numN l.reverse < 256 ^ l.length := by
    intro l
    induction l with
    | nil => simp [numN]
    | cons c l ih =>
      rw [List.reverse_cons, numN_snoc, List.length_cons, Nat.pow_succ]
      have := c.toNat_lt
      have h2 : (numN l.reverse + 1) * 256 ≤ 256 ^ l.length * 256 := Nat.mul_le_mul_right _ ih
      omega
  have h := this s.reverse
  simpa using h
theorem beN_num (n : Nat) : ∀ k, n < 256 ^ k → numN (beN n k) = n := by
  have key : ∀ k m, (beN n k).foldl (fun n c => n * 256 + c.toNat) m = m * 256 ^ k + n % 256 ^ k := by
    intro k
    induction k with
    | zero => intro m; simp [beN, Nat.mod_one]
    | succ k ih =>
      intro m
      rw [beN, List.foldl_cons, ih]
      have h1 : (UInt8.ofNat (n / 256 ^ k % 256)).toNat = n / 256 ^ k % 256 := by simp
      rw [h1]
      have h2 : n % 256 ^ (k + 1) = 256 ^ k * (n / 256 ^ k % 256) + n % 256 ^ k := by
        rw [Nat.pow_succ, Nat.mod_mul]
        omega
      rw [h2, Nat.pow_succ, Nat.add_mul, Nat.mul_assoc, Nat.mul_comm 256 (256 ^ k), Nat.mul_comm (n / 256 ^ k % 256)]
      omega
  intro k hk
  have := key k 0
  unfold numN
  rw [this, Nat.mod_eq_of_lt hk]
  omega
/-! Bits of numbers. -/
theorem wrap_u64 (x : Nat) (h : x < 2 ^ 64) : IntKind.u64.wrap (x : Int) = x := by
  simp only [IntKind.wrap, IntKind.bits, IntKind.signed]
  simp
  omega
theorem wrap_u32 (x : Nat) (h : x < 2 ^ 32) : IntKind.u32.wrap (x : Int) = x := by
  simp only [IntKind.wrap, IntKind.bits, IntKind.signed]
  simp
  omega
theorem bits_or_u64 (x y : Nat) (hx : x < 2 ^ 64) (hy : y < 2 ^ 64) : bits .or .u64 (x : Int) (y : Int) = ((x ||| y : Nat) : Int) := by
  unfold bits
  have e : (BitVec.ofInt 64 (x : Int) ||| BitVec.ofInt 64 (y : Int)).toNat = x ||| y := by
    simp [BitVec.toNat_or, BitVec.toNat_ofInt]
    rw [Nat.mod_eq_of_lt (show x < 18446744073709551616 from hx), Nat.mod_eq_of_lt (show y < 18446744073709551616 from hy)]
  show IntKind.u64.wrap ((BitVec.ofInt 64 (x : Int) ||| BitVec.ofInt 64 (y : Int)).toNat : Int) = _
  rw [e]
  exact wrap_u64 _ (Nat.or_lt_two_pow hx hy)
theorem bits_xor_u32 (x y : Nat) (hx : x < 2 ^ 32) (hy : y < 2 ^ 32) : bits .xor .u32 (x : Int) (y : Int) = ((x ^^^ y : Nat) : Int) := by
  unfold bits
  have e : (BitVec.ofInt 32 (x : Int) ^^^ BitVec.ofInt 32 (y : Int)).toNat = x ^^^ y := by
    simp [BitVec.toNat_xor, BitVec.toNat_ofInt]
    rw [Nat.mod_eq_of_lt (show x < 4294967296 from hx), Nat.mod_eq_of_lt (show y < 4294967296 from hy)]
  show IntKind.u32.wrap ((BitVec.ofInt 32 (x : Int) ^^^ BitVec.ofInt 32 (y : Int)).toNat : Int) = _
  rw [e]
  exact wrap_u32 _ (Nat.xor_lt_two_pow hx hy)
theorem bits_and_u32 (x y : Nat) (hx : x < 2 ^ 32) (hy : y < 2 ^ 32) : bits .and .u32 (x : Int) (y : Int) = ((x &&& y : Nat) : Int) := by
  unfold bits
  have e : (BitVec.ofInt 32 (x : Int) &&& BitVec.ofInt 32 (y : Int)).toNat = x &&& y := by
    simp [BitVec.toNat_and, BitVec.toNat_ofInt]
    rw [Nat.mod_eq_of_lt (show x < 4294967296 from hx), Nat.mod_eq_of_lt (show y < 4294967296 from hy)]
  show IntKind.u32.wrap ((BitVec.ofInt 32 (x : Int) &&& BitVec.ofInt 32 (y : Int)).toNat : Int) = _
  rw [e]
  exact wrap_u32 _ (Nat.and_lt_two_pow _ hy)
theorem or_byte (m c : Nat) (hc : c < 256) : m * 256 ||| c = m * 256 + c := by
  have := Nat.shiftLeft_add_eq_or_of_lt (i := 8) (b := c) hc m
  rw [Nat.shiftLeft_eq] at this
  exact this.symm
end Go.Proofs.YthmigmiojifnkaaDoor
