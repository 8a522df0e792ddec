/-
  octet: Fixed, ReadFixed, Sum.
-/
import Derived.Test.YthmigmiojifnkaaDoorOd
set_option linter.unusedVariables false
set_option linter.unusedSimpArgs false
set_option linter.unusedVariables false
set_option linter.unusedSimpArgs false
namespace Go.Proofs.YthmigmiojifnkaaDoor
open Go.RowKit

theorem ownsRow_base {w : World} {b b' : Nat} {e : TypeId} {size n : Nat} {v : Value} {xs : List Value} (h : w.ownsRow b' e size v n xs) (hb : b ≤ b') : w.ownsRow b e size v n xs :=
  ⟨h.1, h.2.elim .inl (fun ⟨g, cap, cur, hv, hg, r⟩ => .inr ⟨g, cap, cur, hv, Nat.le_trans hb hg, r⟩)⟩
theorem ownsRow_bel {w w' : World} {base : Nat} {e : TypeId} {size : Nat} {v : Value} {n : Nat} {xs : List Value} (h : w.ownsRow base e size v n xs) (hb : Bel w w') : w'.ownsRow base e size v n xs := by
  refine ⟨h.1, ?_⟩
  rcases h.2 with h2 | ⟨g, cap, cur, hv, hg, hh, r⟩
  · exact .inl h2
  · exact .inr ⟨g, cap, cur, hv, hg, (hb.block g (Array.getElem?_eq_some_iff.1 hh).1).trans hh, r⟩
def GivesFixed (n many : Nat) (w : World) (e : Ending) (w' : World) : Prop := ∃ A c, e = .returned (.tuple #[.slice A many c, .int .i64 0]) ∧ w'.ownsRow w.heap.size 5 1 (.slice A many c) many ((beN n many).map bv) ∧ Bel w w'
theorem fixed_any (n many : Nat) (hn : n < 2 ^ 64) (h1 : 1 ≤ many) (h8 : many ≤ 8) (hneed : n < 256 ^ many) (w : World) : Calls Tryd.prog 80 #[.int .u64 n, .int .i64 many] w (GivesFixed n many w) := by
  have HN := Lib.hid (need_any n hn w)
  have g1 : decide ((many : Int) < 1) = false := by simp; omega
  have g2 : decide ((many : Int) > 8) = false := by simp; omega
  have hk : needN n ≤ many := (needN_le_iff n many).2 hneed
  have g3 : decide ((many : Int) < needN n) = false := by simp; omega
  have HL := Lib.hid (laid_any n many h8 w.heap.size (w.heap.size + 1) (by omega) none 0 0 [] (by omega) (w.alloc (.cells #[.int .u64 n] 104)) (by simp) (World.ownsRow_nil _ _ _ _) (by simp))
  have hk4 : ¬ many < needN n := by omega
  clear hn hneed hk
  go_enter Tryd.func80, Tryd.ntmps80
  go_wp2_with (first | (go_at_call 93; refine HN.out.mono ?_; rintro e w' ⟨rfl, rfl⟩) | (go_at_call 95; refine (of_any n _).mono ?_; rintro e w' ⟨rfl, rfl⟩) | (go_at_call 94; refine HL.out.mono ?_; rintro e w1 ⟨A, c, rfl, hown, hbel⟩))
  go_ret2
  refine ⟨A, c, by simp, ?_, ((Bel.refl w).alloc _).trans (Below.mono hbel (Nat.le_succ _))⟩
  have := ownsRow_base hown (Nat.le_succ _)
  simpa using this
theorem readFixed_any (s : List UInt8) (A : Option Addr) (cap : Nat) (h1 : 1 ≤ s.length) (h8 : s.length ≤ 8) (w : World) (hr : Reads w w.heap.size 1 A s.length (s.map bv)) : Calls Tryd.prog 84 #[.slice A s.length cap] w fun e w' => e = .returned (.tuple #[.int .u64 (numN s), .int .i64 0]) ∧ w = w' := by
  have HN := Lib.hid (number_any s A cap h8 w hr)
  have g1 : decide ((s.length : Int) < 1) = false := by simp; omega
  have g2 : decide ((s.length : Int) > 8) = false := by simp; omega
  clear hr h1 h8
  go_enter Tryd.func84, Tryd.ntmps84
  go_wp2_with (go_at_call 100; refine HN.out.mono ?_; rintro e w' ⟨rfl, rfl⟩)
  go_ret2
  exact ⟨rfl, rfl⟩
def crcBit (s : Nat) : Nat := (s / 2) ^^^ (2197175160 * (s % 2))
def crcBits (s : Nat) : Nat → Nat
  | 0 => s
  | k + 1 => crcBit (crcBits s k)
def crcByte (s : Nat) (c : UInt8) : Nat := crcBits (s ^^^ c.toNat) 8
def crcRaw (l : List UInt8) : Nat := l.foldl crcByte 4294967295
def crc (l : List UInt8) : Nat := 4294967295 ^^^ crcRaw l
theorem crcBit_lt {s : Nat} (h : s < 2 ^ 32) : crcBit s < 2 ^ 32 := by
  unfold crcBit
  refine Nat.xor_lt_two_pow (by omega) ?_
  rcases Nat.mod_two_eq_zero_or_one s with e | e <;> rw [e] <;> decide
theorem crcBits_lt {s : Nat} (h : s < 2 ^ 32) : ∀ k, crcBits s k < 2 ^ 32
  | 0 => h
  | k + 1 => crcBit_lt (crcBits_lt h k)
theorem crcByte_lt {s : Nat} (h : s < 2 ^ 32) (c : UInt8) : crcByte s c < 2 ^ 32 := crcBits_lt (Nat.xor_lt_two_pow h (Nat.lt_of_lt_of_le c.toNat_lt (by decide))) 8
theorem crcRaw_snoc (l : List UInt8) (c : UInt8) : crcRaw (l ++ [c]) = crcByte (crcRaw l) c := by simp [crcRaw]
theorem crcRaw_lt (l : List UInt8) : crcRaw l < 2 ^ 32 := by
  have : ∀ (l : List UInt8) (s : Nat), s < 2 ^ 32 → l.foldl crcByte s < 2 ^ 32 := by
    intro l
    induction l with
    | nil => intro s h; exact h
    | cons c l ih => intro s h; exact ih _ (crcByte_lt h c)
  exact this l _ (by decide)
theorem crc_lt (l : List UInt8) : crc l < 2 ^ 32 := Nat.xor_lt_two_pow (by decide) (crcRaw_lt l)
theorem crcBit_bits (s : Nat) (h : s < 2 ^ 32) : bits .xor .u32 ((s : Int) / 2) (2197175160 * bits .and .u32 (s : Int) 1 % 4294967296) = (crcBit s : Int) := by
  have h1 : bits .and .u32 (s : Int) 1 = ((s % 2 : Nat) : Int) := by
    have := bits_and_u32 s 1 h (by decide)
    rw [Nat.and_one_is_mod] at this
    exact this
  have h2 : (2197175160 * (s % 2) : Nat) < 2 ^ 32 := by omega
  rw [h1]
  have h3 : (2197175160 : Int) * ((s % 2 : Nat) : Int) % 4294967296 = ((2197175160 * (s % 2) : Nat) : Int) := by omega
  rw [h3]
  have h4 : (s : Int) / 2 = ((s / 2 : Nat) : Int) := by simp
  rw [h4, bits_xor_u32 _ _ (by omega) h2]
  rfl
set_option maxRecDepth 100000 in
set_option maxHeartbeats 1000000 in
theorem sum_one (s : List UInt8) (A : Option Addr) (cap B : Nat) (hs : s.length ≤ 1000000000) (w : World) (hr : Reads w w.heap.size 1 A s.length (s.map bv)) (hB : w.cell? ⟨B, 0, none⟩ = some (.slice A s.length cap)) :
    Calls Tryd.prog 51 #[.slice (some ⟨B, 0, none⟩) 1 1] w fun e w' => e = .returned (.int .u32 (crc s)) ∧ w = w' := by
  have HR := Lib.hid hr
  have hlen : (s.length : Int) ≤ 1000000000 := by omega
  clear hr hs
  go_enter Tryd.func51, Tryd.ntmps51
  go_wp2
  refine wp_loop_rounds 2 ?_
  rw [rounds_succ]
  go_wp2
  go_loopw [3, 16] (fun v i wr => ∃ k : Nat, k ≤ s.length ∧ i = .int .i64 k ∧ v = .int .u32 (crcRaw (s.take k)) ∧ wr = w) (fun _ i _ => s.length - (intOf i).toNat)
  case atStart => exact ⟨0, Nat.zero_le _, rfl, rfl, rfl⟩
  case round =>
    obtain ⟨k, hk, rfl, rfl, rfl⟩ := hrel
    by_cases hlt : k < s.length
    · obtain ⟨ad, u, hA, hb, hu, hc⟩ := HR.out.at_ (k := k) hlt
      obtain ⟨c, hck⟩ : ∃ c, s[k]? = some c := ⟨_, List.getElem?_eq_getElem hlt⟩
      have huc : u = bv c := by rw [List.getElem?_map, hck] at hu; simpa using hu.symm
      subst hA
      subst huc
      have hcc : wr.cell? (ad.add k) = some (.int .u8 c.toNat) := hc
      have hnum : crcRaw (s.take (k + 1)) = crcByte (crcRaw (s.take k)) c := by rw [List.take_add_one, hck]; exact crcRaw_snoc _ _
      have hl := crcRaw_lt (s.take k)
      have hc256 : c.toNat < 256 := c.toNat_lt
      have hcI : (c.toNat : Int) < 256 := by omega
      generalize crcRaw (s.take k) = m at *
      have hx := bits_xor_u32 m c.toNat hl (Nat.lt_of_lt_of_le hc256 (by decide))
      have hm : m ^^^ c.toNat < 2 ^ 32 := Nat.xor_lt_two_pow hl (Nat.lt_of_lt_of_le hc256 (by decide))
      have HNUM := Lib.hid hnum
      have HM := Lib.hid hm
      clear hck hu hc hb HR hnum hm hl
      go_wp2
      go_loopw [3, 24] (fun v i wx => ∃ j : Nat, j ≤ 8 ∧ i = .int .i64 j ∧ v = .int .u32 (crcBits (m ^^^ c.toNat) j) ∧ wx = wr) (fun _ i _ => 8 - (intOf i).toNat)
      case atStart => exact ⟨0, Nat.zero_le _, rfl, by first | rfl | (rw [hx]; rfl), rfl⟩
      case round =>
        obtain ⟨j, hj, rfl, rfl, rfl⟩ := hrel
        by_cases hj8 : j < 8
        · have hbit := crcBit_bits _ (crcBits_lt HM.out j)
          have hbl := crcBits_lt HM.out j
          go_wp2
          go_roundw
          case rel => exact ⟨j + 1, by omega, by go_num, by first | rfl | (rw [hbit]; rfl), by first | rfl | trivial⟩
          case measure => simp [intOf]; omega
        · obtain rfl : j = 8 := by omega
          go_wp2
          go_roundw
          case rel => exact ⟨k + 1, by omega, by go_num, by rw [HNUM.out]; rfl, by first | rfl | trivial⟩
          case measure => simp [intOf]; omega
    · obtain rfl : k = s.length := by omega
      go_wp2
      rw [rounds_succ]
      go_wp2
      go_ret
      refine ⟨?_, rfl⟩
      exact ret_int (bits_xor_u32 4294967295 (crcRaw s) (by decide) (crcRaw_lt s))
end Go.Proofs.YthmigmiojifnkaaDoor
