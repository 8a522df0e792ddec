/-
  octet: walks.
-/
import Derived.Test.YthmigmiojifnkaaDoorOe
set_option linter.unusedVariables false
set_option linter.unusedSimpArgs false
set_option linter.unusedVariables false
set_option linter.unusedSimpArgs false
namespace Go.Proofs.YthmigmiojifnkaaDoor
open Go.RowKit

theorem ofC_any (n : Nat) (i : Nat) (hi : i < 8) (b : Nat) (w : World) (hc : w.cell? ⟨b, 0, none⟩ = some (.int .u64 n)) : Calls Tryd.prog 106 #[.int .i64 i, .pointer (some ⟨b, 0, none⟩)] w fun e w' => e = .returned (.int .u8 ((n / 256 ^ i % 256 : Nat) : Int)) ∧ w = w' := by
  go_enter Tryd.func106, Tryd.ntmps106
  go_wp2
  go_ret
  refine ⟨ret_int ?_, rfl⟩
  have e : (256 : Nat) ^ i = 2 ^ (8 * i) := by rw [Nat.pow_mul]
  rw [e]
  simp
theorem of_any (n : Nat) (w : World) : Calls Tryd.prog 95 #[.int .u64 n] w fun e w' => e = .returned (.func (.func 106) #[] #[.pointer (some ⟨w.heap.size, 0, none⟩)]) ∧ w.alloc (.cells #[.int .u64 n] 104) = w' := by
  go_enter Tryd.func95, Tryd.ntmps95
  go_wp2
  go_ret
  exact ⟨rfl, rfl⟩
set_option maxRecDepth 100000 in
theorem number_any (s : List UInt8) (A : Option Addr) (cap : Nat) (hs : s.length ≤ 8) (w : World) (hr : Reads w w.heap.size 1 A s.length (s.map bv)) : Calls Tryd.prog 100 #[.slice A s.length cap] w fun e w' => e = .returned (.int .u64 (numN s)) ∧ w = w' := by
  have HR := Lib.hid hr
  have hlen : (s.length : Int) ≤ 8 := by omega
  clear hr hs
  go_enter Tryd.func100, Tryd.ntmps100
  go_wp2
  go_loopw [2, 7] (fun v i wr => ∃ k : Nat, k ≤ s.length ∧ i = .int .i64 k ∧ v = .int .u64 (numN (s.take k)) ∧ wr = w) (fun _ i _ => s.length - (intOf i).toNat)
  case atStart => exact ⟨0, Nat.zero_le _, rfl, rfl, rfl⟩
  case round =>
    obtain ⟨k, hk, rfl, rfl, rfl⟩ := hrel
    by_cases hlt : k < s.length
    · obtain ⟨ad, u, hA, hb, hu, hc⟩ := HR.out.at_ (k := k) hlt
      obtain ⟨c, hck⟩ : ∃ c, s[k]? = some c := ⟨_, List.getElem?_eq_getElem hlt⟩
      have huc : u = bv c := by rw [List.getElem?_map, hck] at hu; simpa using hu.symm
      subst hA
      subst huc
      have hcc : wr.cell? (ad.add k) = some (.int .u8 c.toNat) := hc
      have hnum : numN (s.take (k + 1)) = numN (s.take k) * 256 + c.toNat := by rw [List.take_add_one, hck]; exact numN_snoc _ _
      have hl : numN (s.take k) < 256 ^ 7 := Nat.lt_of_lt_of_le (numN_lt _) (Nat.pow_le_pow_right (by decide) (by simp; omega))
      have hc256 : c.toNat < 256 := c.toNat_lt
      have hcI : (c.toNat : Int) < 256 := by omega
      generalize numN (s.take k) = m at *
      have hor : bits .or .u64 ((m : Int) * 256) (c.toNat : Int) = ((m * 256 + c.toNat : Nat) : Int) := by
        have h1 : m * 256 < 2 ^ 64 := by have : (256 : Nat) ^ 7 * 256 = 2 ^ 64 := by decide
                                         omega
        have := bits_or_u64 (m * 256) c.toNat h1 (by omega)
        rw [or_byte _ _ hc256] at this
        rw [← this]
        simp
      clear hck hu hc hb HR
      go_wp2
      go_roundw
      case rel => exact ⟨k + 1, by omega, by go_num, by rw [hnum]; simp, trivial⟩
      case measure => simp [intOf]; omega
    · obtain rfl : k = s.length := by omega
      go_wp2
      go_ret
      exact ⟨by simp, rfl⟩
theorem reads1 (w : World) (T : TypeId) (u : Value) : Reads (w.alloc (.cells #[u] T)) (w.heap.size + 1) 1 (some ⟨w.heap.size, 0, none⟩) 1 [u] := by
  refine ⟨rfl, fun _ => ⟨_, rfl, by simp, fun j x hx => ?_⟩⟩
  have hj : j = 0 := by have := (List.getElem?_eq_some_iff.1 hx).1; simpa using this
  subst hj
  simp at hx
  subst hx
  simp [Addr.add]
theorem beN_at (n : Nat) : ∀ (k j : Nat), j < k → (beN n k)[j]? = some (UInt8.ofNat (n / 256 ^ (k - 1 - j) % 256))
  | 0, j, h => by omega
  | k + 1, 0, _ => by simp [beN]
  | k + 1, j + 1, h => by
    rw [beN, List.getElem?_cons_succ, beN_at n k j (by omega)]
    congr 5
    omega
/-- What laying so many bytes hands back: a row of the call's own, behind what was there. -/
def GivesRow (base n : Nat) (xs : List Value) (w : World) (e : Ending) (w' : World) : Prop := ∃ A c, e = .returned (.slice A n c) ∧ w'.ownsRow base 5 1 (.slice A n c) n xs ∧ Below base w w'
set_option maxRecDepth 100000 in
set_option maxHeartbeats 1000000 in
theorem laid_any (n many : Nat) (hm : many ≤ 8) (b base : Nat) (hb : b < base) (A : Option Addr) (m c : Nat) (xs : List Value) (hx : m ≤ 1000) (w : World) (hbase : base ≤ w.heap.size) (hown : w.ownsRow base 5 1 (.slice A m c) m xs) (hc : w.cell? ⟨b, 0, none⟩ = some (.int .u64 n)) :
    Calls Tryd.prog 94 #[.slice A m c, .int .i64 many, .func (.func 106) #[] #[.pointer (some ⟨b, 0, none⟩)]] w (GivesRow base (m + many) (xs ++ (beN n many).map bv) w) := by
  obtain ⟨i0, hi0, hz0, hz1, hz2⟩ := info_parts infoU8
  have HOWN := Lib.hid hown
  have HC := Lib.hid hc
  have hb0 : b < w.heap.size := by omega
  have hmI : (many : Int) ≤ 8 := by omega
  clear hown hc
  go_enter Tryd.func94, Tryd.ntmps94
  go_wp2
  go_loopw [0, 7] (fun v i wr => ∃ (k : Nat) (A : Option Addr) (c : Nat), k ≤ many ∧ i = .int .i64 ((many : Int) - 1 - k) ∧ v = .slice A (m + k) c ∧ Hid (wr.ownsRow base 5 1 (.slice A (m + k) c) (m + k) (xs ++ ((beN n many).take k).map bv) ∧ Below base w wr) ∧ base ≤ wr.heap.size) (fun _ i _ => (intOf i + 1).toNat)
  case atStart => exact ⟨0, A, c, Nat.zero_le _, by simp, rfl, ⟨by simpa using HOWN.out, Below.refl _ _⟩, hbase⟩
  case round =>
    obtain ⟨k, A, c, hk, rfl, rfl, HR, hsz⟩ := hrel
    by_cases hlt : k < many
    · have hcr : wr.cell? ⟨b, 0, none⟩ = some (.int .u64 n) := (HR.out.2.cell (p := ⟨b, 0, none⟩) hb).trans HC.out
      have hge : decide ((many : Int) - 1 - k ≥ 0) = true := by simp; omega
      have HOC := Lib.hid (ofC_any n (many - 1 - k) (by omega) b wr hcr)
      have hcast : ((many - 1 - k : Nat) : Int) = (many : Int) - 1 - k := by omega
      rw [hcast] at HOC
      have hval : bv (UInt8.ofNat (n / 256 ^ (many - 1 - k) % 256)) = .int .u8 ((n / 256 ^ (many - 1 - k) % 256 : Nat) : Int) := by
        unfold bv
        simp
      have hnext : (xs ++ ((beN n many).take k).map bv) ++ [.int .u8 ((n / 256 ^ (many - 1 - k) % 256 : Nat) : Int)] = xs ++ ((beN n many).take (k + 1)).map bv := by
        rw [List.take_add_one, beN_at n many k hlt, List.map_append, ← List.append_assoc, ← hval]
        rfl
      generalize hvv : ((n / 256 ^ (many - 1 - k) % 256 : Nat) : Int) = vv at *
      have HNX := Lib.hid hnext
      clear hcast hval hnext hcr
      go_wp2_with (first | (go_at_call 106; refine HOC.out.mono ?_; rintro e w' ⟨rfl, rfl⟩) | (at_builtin; refine wpList_append_any _ rfl (.tmp 14) (.tmp 18) _ rfl base 5 i0 _ 1 1 Tryd.underlying31 hi0 hz0 hz1 hz2 rfl (by omega) (.slice A (m + k) c) (m + k) (xs ++ ((beN n many).take k).map bv) rfl ?c1 (wr.heap.size + 1) (some ⟨wr.heap.size, 0, none⟩) 1 1 [.int .u8 vv] rfl ?c2 ?c3 ?c4 ?c5 ?c6 ?_))
      case c1 => exact HR.out.1.alloc _
      case c2 => exact reads1 wr _ _
      case c3 => simp [Value.oneCell']
      case c4 => unfold maxLen; omega
      case c5 => omega
      case c6 => simp; omega
      intro v1 w1 hown1 hg1 hat1
      have hown2 : w1.ownsRow base 5 1 v1 (m + k + 1) (xs ++ ((beN n many).take (k + 1)).map bv) := by rw [← HNX.out]; simpa using hown1
      obtain ⟨g, cap', rfl⟩ := ownsRow_succ hown2
      have hB1 : Below base w w1 := HR.out.2.trans (((Below.refl base wr).alloc hsz _).trans (Below.grown (Below.refl _ _) hg1 (by simp; omega) (fun j e => by have := (HR.out.1.lt j e).1; omega)))
      have HO1 := Lib.hid hown2
      have HB1 := Lib.hid hB1
      have hs1 : base ≤ w1.heap.size := by have := hg1.size; simp at this; omega
      clear hown1 hown2 hg1 hat1 hB1
      go_wp2
      go_roundw
      case rel => exact ⟨k + 1, _, _, by omega, by go_num, rfl, ⟨HO1.out, HB1.out⟩, hs1⟩
      case measure => simp [intOf]; omega
    · obtain rfl : k = many := by omega
      go_wp2
      go_ret
      refine ⟨A, c, rfl, ?_, HR.out.2⟩
      have := HR.out.1
      rwa [List.take_of_length_le (by rw [beN_length]; exact Nat.le_refl _)] at this
end Go.Proofs.YthmigmiojifnkaaDoor
