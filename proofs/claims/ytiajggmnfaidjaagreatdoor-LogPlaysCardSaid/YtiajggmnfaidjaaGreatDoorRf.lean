/-
  The document's answer for a record: its bytes, one by one.
-/
import Derived.Test.YtiajggmnfaidjaaGreatDoorLv
import Derived.Deep.OwnRows
import Derived.Lib.ConvBytes
set_option linter.unusedVariables false
set_option linter.unusedSimpArgs false
set_option linter.unusedVariables false
set_option linter.unusedSimpArgs false
namespace Go.Proofs.YtiajggmnfaidjaaGreatDoor
open Go.RowKit

set_option maxRecDepth 100000 in
set_option maxHeartbeats 1000000 in
theorem r2Sum_any (s : List UInt8) (A : Option Addr) (cap : Nat) (hs : s.length ≤ 1000000000) (w : World) (hr : Reads w w.heap.size 1 A s.length (s.map bv)) :
    Calls Tryz.prog 68 #[.slice A s.length cap] w fun e w' => e = .returned (.int .u32 (crc s)) ∧ w = w' := by
  have HR := Lib.hid hr
  have hlen : (s.length : Int) ≤ 1000000000 := by omega
  clear hr hs
  go_enter Tryz.func68, Tryz.ntmps68
  go_wp2
  go_loopw [3, 4] (fun v i wr => ∃ k : Nat, k ≤ s.length ∧ i = .int .i64 k ∧ v = .int .u32 (crcRaw (s.take k)) ∧ wr = w) (fun _ i _ => s.length - (intOf i).toNat)
  case atStart => exact ⟨0, Nat.zero_le _, rfl, rfl, rfl⟩
  case round =>
    obtain ⟨k, hk, rfl, rfl, rfl⟩ := hrel
    by_cases hlt : k < s.length
    · obtain ⟨ad, u, hA, hb, hu, hc⟩ := HR.out.at_ (k := k) hlt
      obtain ⟨c, hck⟩ : ∃ c, s[k]? = some c := ⟨_, List.getElem?_eq_getElem hlt⟩
      have huc : u = bv c := by rw [List.getElem?_map, hck] at hu; simpa using hu.symm
      subst hA
      subst huc
      have hcc : wr.cell? (ad.add k) = some (.int .u8 c.toNat) := hc
      have hnum : crcRaw (s.take (k + 1)) = crcByte (crcRaw (s.take k)) c := by rw [List.take_add_one, hck]; exact crcRaw_snoc _ _
      have hl := crcRaw_lt (s.take k)
      have hc256 : c.toNat < 256 := c.toNat_lt
      have hcI : (c.toNat : Int) < 256 := by omega
      generalize crcRaw (s.take k) = m at *
      have hx := bits_xor_u32 m c.toNat hl (Nat.lt_of_lt_of_le hc256 (by decide))
      have hm : m ^^^ c.toNat < 2 ^ 32 := Nat.xor_lt_two_pow hl (Nat.lt_of_lt_of_le hc256 (by decide))
      have HNUM := Lib.hid hnum
      have HM := Lib.hid hm
      clear hck hu hc hb HR hnum hm hl
      go_wp2
      go_loopw [3, 5] (fun v i wx => ∃ j : Nat, j ≤ 8 ∧ i = .int .i64 j ∧ v = .int .u32 (crcBits (m ^^^ c.toNat) j) ∧ wx = wr) (fun _ i _ => 8 - (intOf i).toNat)
      case atStart => exact ⟨0, Nat.zero_le _, rfl, by first | rfl | (rw [hx]; rfl), rfl⟩
      case round =>
        obtain ⟨j, hj, rfl, rfl, rfl⟩ := hrel
        by_cases hj8 : j < 8
        · have hbl := crcBits_lt HM.out j
          have hnx : crcBits (m ^^^ c.toNat) (j + 1) = crcBit (crcBits (m ^^^ c.toNat) j) := rfl
          have HNX := Lib.hid hnx
          clear hnx
          generalize crcBits (m ^^^ c.toNat) j = y at *
          have hyI : (y : Int) ≤ 4294967295 := by omega
          by_cases hlow : y % 2 = 1
          · have hlb : ((y : Int) % 2 == 1) = true := by simp; omega
            have hxx : bits .xor .u32 ((y : Int) / 2) 2197175160 = (crcBit y : Int) := by
              have := bits_xor_u32 (y / 2) 2197175160 (by omega) (by decide)
              unfold crcBit
              rw [hlow, ← this]
              simp
            have HXX := Lib.hid hxx
            clear hbl hxx hlow
            go_wp2
            go_roundw
            case rel => exact ⟨j + 1, by omega, by go_num, by rw [HNX.out, ← HXX.out], by first | rfl | trivial⟩
            case measure => simp [intOf]; omega
          · have hlb : ((y : Int) % 2 == 1) = false := by simp; omega
            have hxx : ((y : Int) / 2) = (crcBit y : Int) := by
              unfold crcBit
              rw [show y % 2 = 0 by omega]
              simp
            have HXX := Lib.hid hxx
            clear hbl hxx hlow
            go_wp2
            go_roundw
            case rel => exact ⟨j + 1, by omega, by go_num, by rw [HNX.out, ← HXX.out], by first | rfl | trivial⟩
            case measure => simp [intOf]; omega
        · obtain rfl : j = 8 := by omega
          go_wp2
          go_roundw
          case rel => exact ⟨k + 1, by omega, by go_num, by rw [HNUM.out]; rfl, by first | rfl | trivial⟩
          case measure => simp [intOf]; omega
    · obtain rfl : k = s.length := by omega
      go_wp2
      go_ret
      refine ⟨?_, rfl⟩
      have := bits_xor_u32 4294967295 (crcRaw s) (by decide) (crcRaw_lt s)
      first
      | exact ret_int this
theorem needN_pos {n : Nat} (h : 0 < n) : needN n = needN (n / 256) + 1 := by
  unfold needN
  by_cases h8 : 256 ≤ n
  · have := bl_shift n 8 h8
    rw [show (2 : Nat) ^ 8 = 256 from rfl] at this
    rw [this]
    omega
  · have e : n / 256 = 0 := by omega
    have h1 : bl n ≤ 8 := (bl_le_iff n 8).2 (by omega)
    have h2 : 0 < bl n := (bl_lt_iff n 0).2 (by omega)
    rw [e, bl_zero]
    omega
theorem beN_snoc (n : Nat) : ∀ k, beN n (k + 1) = beN (n / 256) k ++ [UInt8.ofNat (n % 256)]
  | 0 => by simp [beN]
  | k + 1 => by
    rw [beN, beN_snoc n k, beN, List.cons_append]
    congr 3
    rw [Nat.div_div_eq_div_mul, Nat.pow_succ, Nat.mul_comm]
set_option maxRecDepth 100000 in
set_option maxHeartbeats 1000000 in
theorem high_any : ∀ (k n : Nat), n < 256 ^ k → n < 2 ^ 64 → ∀ w : World, Calls Tryz.prog 81 #[.int .u64 n] w fun e w' => ∃ A c, e = .returned (.slice A (needN n) c) ∧ w'.ownsRow w.heap.size 5 1 (.slice A (needN n) c) (needN n) ((beN n (needN n)).map bv) ∧ Bel w w' := by
  intro k
  induction k with
  | zero =>
    intro n hn h64 w
    obtain rfl : n = 0 := by simpa using hn
    go_enter Tryz.func81, Tryz.ntmps81
    go_wp2
    go_ret
    exact ⟨none, 0, rfl, World.ownsRow_nil _ _ _ _, Bel.refl w⟩
  | succ k ih =>
    intro n hn h64 w
    by_cases h0 : n = 0
    · subst h0
      go_enter Tryz.func81, Tryz.ntmps81
      go_wp2
      go_ret
      exact ⟨none, 0, rfl, World.ownsRow_nil _ _ _ _, Bel.refl w⟩
    · have hne : ((n : Int) == 0) = false := beq_eq_false_iff_ne.2 (by omega)
      have IH := Lib.hid (ih (n / 256) (by rw [Nat.pow_succ] at hn; omega) (by omega))
      have hI : (n : Int) ≤ 18446744073709551615 := by omega
      clear hn h64
      clear ih
      go_enter Tryz.func81, Tryz.ntmps81
      go_wp2_with fail
      refine (IH.out w).mono ?_
      rintro e w1 ⟨A1, c1, rfl, hown, hb⟩
      have hnd := needN_pos (n := n) (by omega)
      have hbe : (beN n (needN n)).map bv = (beN (n / 256) (needN (n / 256))).map bv ++ [.int .u8 ((n : Int) % 256)] := by
        rw [hnd, beN_snoc, List.map_append]
        simp [bv]
      have hk8 : needN (n / 256) ≤ 8 := (needN_le_iff _ _).2 (by omega)
      have HND := Lib.hid hnd
      have HBE := Lib.hid hbe
      have hbo : ∀ u ∈ [(.int .u8 ((n : Int) % 256) : Value)], u.oneCell' = true := by simp [Value.oneCell']
      have HO := Lib.hid hown
      have HB := Lib.hid hb
      obtain ⟨i0, hi0, hz0, hz1, hz2⟩ := info_parts infoU8
      clear hown hb IH hnd hbe
      generalize (beN (n / 256) (needN (n / 256))).map bv = ys at *
      generalize needN (n / 256) = K at *
      go_wp2_with (at_builtin; refine wpList_append_any _ rfl (.tmp 7) (.tmp 11) _ rfl w.heap.size 5 i0 _ 1 1 Tryz.underlying43 hi0 hz0 hz1 hz2 rfl (by omega) (.slice A1 K c1) K ys rfl ?c1 (w1.heap.size + 1) (some ⟨w1.heap.size, 0, none⟩) 1 1 [.int .u8 ((n : Int) % 256)] rfl ?c2 hbo ?c3 ?c4 ?c5 ?_)
      case c1 => exact ownsRow_bel HO.out ((Bel.refl w1).alloc _)
      case c2 => exact ⟨by simp, fun _ => ⟨_, rfl, by simp, fun j u hu => by
        have hj : j = 0 := by have := (List.getElem?_eq_some_iff.1 hu).1; simp at this; omega
        subst hj
        simp at hu
        subst hu
        simp [Addr.add, World.cell?_alloc_new]⟩⟩
      case c3 => unfold maxLen; omega
      case c4 => simp; omega
      case c5 => have := HB.out.size; simp; omega
      intro v1 w2 hown2 hg2 hat2
      obtain ⟨g, cap', rfl⟩ := ownsRow_succ hown2
      have HO3 := Lib.hid hown2
      have HB3 : Hid (Bel w w2) := Below.grown (HB.out.alloc _) hg2 (by have := HB.out.size; simp; omega) (fun j e => (HO.out.lt j e).1)
      clear hown2 hg2 hat2
      go_wp2
      go_ret
      rw [HBE.out, HND.out]
      exact ⟨_, _, rfl, HO3.out, HB3.out⟩
theorem beN_pad (n K : Nat) (h : n < 256 ^ K) : ∀ d, beN n (K + d) = List.replicate d 0 ++ beN n K
  | 0 => by simp
  | d + 1 => by
    have e : K + (d + 1) = (K + d) + 1 := by omega
    have h1 : n / 256 ^ (K + d) = 0 := Nat.div_eq_of_lt (Nat.lt_of_lt_of_le h (Nat.pow_le_pow_right (by decide) (by omega)))
    rw [e, beN, beN_pad n K h d, h1, List.replicate_succ, List.cons_append]
    rfl
theorem made_list (z : Value) (n : Nat) : (madeCells #[z] n).toList = List.replicate n z := by
  apply List.ext_getElem?
  intro i
  rw [Array.getElem?_toList]
  by_cases hi : i < n
  · simp [madeCells, hi, Nat.mod_one]
  · simp [madeCells, hi]
theorem own_made (w : World) (n : Nat) (hn : n ≤ maxLen) : (w.alloc (.cells (madeCells #[.int .u8 0] n) 5)).ownsRow w.heap.size 5 1 (.slice (some ⟨w.heap.size, 0, none⟩) n n) n ((List.replicate n (0 : UInt8)).map bv) := by
  refine ⟨by simp, .inr ⟨w.heap.size, n, _, rfl, Nat.le_refl _, World.alloc_heap_new _ _, Nat.le_refl _, hn, by rw [size_madeCells, Nat.mul_one], ?_⟩⟩
  rw [made_list, Nat.mul_one, List.take_of_length_le (by simp), List.map_replicate]
  rfl
theorem make_bytes (kl kc : IntKind) (n : Nat) (hn : n ≤ 281474976710656) (w : World) : (Instr.makeSlice 43 (.int kl (n : Int)) (.int kc (n : Int))).run Tryz.prog w = .ok (.slice (some ⟨w.heap.size, 0, none⟩) n n) (w.alloc (.cells (madeCells #[.int .u8 0] n) 5)) :=
  run_make_row' (P := Tryz.prog) 43 5 (.int .u8 0) 1 Tryz.underlying43 infoU8 rfl kl kc n (by omega) (by omega) w
theorem row_form {w : World} {b e n : Nat} {v : Value} {xs : List Value} (h : w.ownsRow b e 1 v n xs) : ∃ A c, v = .slice A n c := by
  rcases h.2 with ⟨rfl, rfl⟩ | ⟨g, cap, cur, rfl, _⟩
  · exact ⟨none, 0, rfl⟩
  · exact ⟨_, cap, rfl⟩
set_option maxRecDepth 100000 in
set_option maxHeartbeats 1000000 in
theorem r2Fixed_any (n many : Nat) (hn : n < 256 ^ many) (h1 : 1 ≤ many) (h8 : many ≤ 8) (h64 : n < 2 ^ 64) (w : World) :
    Calls Tryz.prog 69 #[.int .u64 n, .int .i64 many] w fun e w' => ∃ A c, e = .returned (.tuple #[.slice A many c, .int .i64 0]) ∧ Reads w' w'.heap.size 1 A many ((beN n many).map bv) ∧ Bel w w' := by
  have HH := Lib.hid (high_any many n hn h64 w)
  have hK := (needN_le_iff n many).2 hn
  have hpad := beN_pad n (needN n) ((needN_le_iff n _).1 (Nat.le_refl _)) (many - needN n)
  rw [show needN n + (many - needN n) = many by omega] at hpad
  have HPAD : Hid ((beN n many).map bv = List.replicate (many - needN n) (bv 0) ++ (beN n (needN n)).map bv) := by show _ = _; rw [hpad, List.map_append, List.map_replicate]
  have h1I : (1 : Int) ≤ many := by omega
  have h8I : (many : Int) ≤ 8 := by omega
  have hKI : (needN n : Int) ≤ many := by omega
  have hcast : (many : Int) - needN n = ((many - needN n : Nat) : Int) := by omega
  have hone : ∀ u ∈ (beN n (needN n)).map bv, u.oneCell' = true := bv_one _
  obtain ⟨i0, hi0, hz0, hz1, hz2⟩ := info_parts infoU8
  have hKn := hK
  clear hn h64 hpad hK
  generalize (beN n (needN n)).map bv = ys at *
  generalize needN n = K at *
  have hmk := fun W => make_bytes .i64 .i64 (many - K) (by omega) W
  rw [← hcast] at hmk
  have HCAST := Lib.hid hcast
  clear hcast
  go_enter Tryz.func69, Tryz.ntmps69
  go_wp2_with fail
  refine HH.out.mono ?_
  rintro e w1 ⟨A1, c1, rfl, hown, hb⟩
  have HO := Lib.hid hown
  have HB := Lib.hid hb
  clear hown hb HH
  have hone1 : (0 : Nat) < 1 := by omega
  have HM := Lib.hid (own_made w1 (many - K) (by unfold maxLen; omega))
  have HR : Hid (Reads (w1.alloc (.cells (madeCells #[.int .u8 0] (many - K)) 5)) (w1.alloc (.cells (madeCells #[.int .u8 0] (many - K)) 5)).heap.size 1 A1 K ys) := (Reads.of_own HO.out).belHeap ((Bel.refl w1).alloc _)
  have h63 : many - K + K ≤ maxLen := by unfold maxLen; omega
  have hby : (many - K + K) * 1 ≤ 140737488355328 := by omega
  have hbase : w1.heap.size ≤ (w1.alloc (.cells (madeCells #[.int .u8 0] (many - K)) 5)).heap.size := by simp
  have hall : Bel w1 (w1.alloc (.cells (madeCells #[.int .u8 0] (many - K)) 5)) := (Bel.refl w1).alloc _
  have HALL := Lib.hid hall
  clear hall
  go_wp2_with (at_builtin; refine wpList_append_any _ rfl (.tmp 23) (.tmp 24) _ rfl w1.heap.size 5 i0 _ 1 1 Tryz.underlying43 hi0 hz0 hz1 hz2 rfl hone1 _ (many - K) _ rfl HM.out _ A1 K c1 _ rfl HR.out hone h63 hby hbase ?_)
  intro v2 w2 hown2 hg2 hat2
  have hb2 : Bel w1 w2 := Below.grown HALL.out hg2 hbase (fun j e => (HM.out.lt j e).1)
  rw [← HPAD.out] at hown2
  obtain ⟨A2, c2, rfl⟩ := row_form hown2
  have HR2 := Lib.hid (Reads.of_own hown2)
  have HB2 := Lib.hid (HB.out.then_ hb2)
  clear hown2 hg2 hat2 hb2 hbase h63 hby hmk
  go_wp2
  go_ret2
  exact ⟨A2, c2, rfl, HR2.out, HB2.out⟩
theorem conv_bytes (s : List UInt8) (W : World) : (convert 9 43 (.string ⟨s.toArray⟩)).run Tryz.prog W = .ok (.slice (some ⟨W.heap.size, 0, none⟩) s.length (grownCap W s.length 0 5)) (Lib.bytesWorld W 5 ⟨s.toArray⟩) := by
  have := Lib.run_convert_string_bytes (P := Tryz.prog) W 9 43 5 ⟨s.toArray⟩ Tryz.underlying9 Tryz.underlying43 Tryz.underlying5
  rw [show (⟨s.toArray⟩ : ByteArray).size = s.length from rfl] at this
  exact this
theorem bytes_bel (s : List UInt8) (W : World) : Bel W (Lib.bytesWorld W 5 ⟨s.toArray⟩) := by
  refine ⟨?_, ?_, ?_, by rw [Lib.bytesWorld_size]; omega, fun k hk => Lib.bytesWorld_at_old W _ _ k hk⟩ <;> simp [Lib.bytesWorld, World.freeze, World.alloc, World.drew, -World.alloc_eq, -World.drew_eq]
theorem bytes_reads (s : List UInt8) (W : World) : Reads (Lib.bytesWorld W 5 ⟨s.toArray⟩) (Lib.bytesWorld W 5 ⟨s.toArray⟩).heap.size 1 (some ⟨W.heap.size, 0, none⟩) s.length (s.map bv) := by
  refine ⟨by simp, fun _ => ⟨_, rfl, by rw [Lib.bytesWorld_size]; simp, fun j u hu => ?_⟩⟩
  have hj : j < s.length := by have := (List.getElem?_eq_some_iff.1 hu).1; simpa using this
  rw [add_free, Nat.zero_add, Lib.bytesWorld_cell W 5 ⟨s.toArray⟩ j hj]
  rw [List.getElem?_map, List.getElem?_eq_getElem hj] at hu
  simp at hu
  subst hu
  simp [bv, List.getD, hj]
theorem cat_bytes (a b : List UInt8) : (⟨a.toArray⟩ : ByteArray) ++ (⟨b.toArray⟩ : ByteArray) = ⟨(a ++ b).toArray⟩ := by
  apply ByteArray.ext
  simp
set_option maxRecDepth 100000 in
set_option maxHeartbeats 1000000 in
theorem r10Record_any (s : List UInt8) (hs : s.length ≤ 60000) (w : World) :
    Calls Tryz.prog 53 #[.string ⟨s.toArray⟩] w fun e w' => e = .returned (.tuple #[.string ⟨(recN s).toArray⟩, .int .i64 0]) ∧ Bel w w' := by
  have hlenI : (s.length : Int) ≤ 60000 := by omega
  have HF1 := Lib.hid (r2Fixed_any s.length 4 (by omega) (by omega) (by omega) (by omega) w)
  have HF2 := fun W => Lib.hid (r2Fixed_any (crc s) 4 (crc_lt s) (by omega) (by omega) (Nat.lt_of_lt_of_le (crc_lt s) (by decide)) W)
  have hcs : (crc s : Int) ≤ 4294967295 := by have := crc_lt s; omega
  have hsz : (⟨s.toArray⟩ : ByteArray).size = s.length := rfl
  have hcb := fun W => conv_bytes s W
  have HCAT : Hid ((⟨(beN s.length 4).toArray⟩ : ByteArray) ++ ⟨(beN (crc s) 4).toArray⟩ ++ ⟨s.toArray⟩ = ⟨(recN s).toArray⟩) := by show _ = _; rw [cat_bytes, cat_bytes]; rfl
  go_enter Tryz.func53, Tryz.ntmps53
  go_wp2_with fail
  refine HF1.out.mono ?_
  rintro e w1 ⟨A1, c1, rfl, hr1, hb1⟩
  have HR1 := Lib.hid hr1
  have HB1 := Lib.hid hb1
  have HS := Lib.hid (r2Sum_any s (some ⟨w1.heap.size, 0, none⟩) (grownCap w1 s.length 0 5) (by omega) _ (bytes_reads s w1))
  have HBW := Lib.hid (bytes_bel s w1)
  clear hr1 hb1 HF1
  go_wp2_with fail
  refine HS.out.mono ?_
  rintro e w2 ⟨rfl, rfl⟩
  have HF3 := HF2 (Lib.bytesWorld w1 5 ⟨s.toArray⟩)
  clear HF2 HS
  generalize Lib.bytesWorld w1 5 ⟨s.toArray⟩ = w2 at *
  clear hcb
  go_wp2_with fail
  refine HF3.out.mono ?_
  rintro e w3 ⟨A3, c3, rfl, hr3, hb3⟩
  have cv1 := conv_reads (s := beN s.length 4) c1 (by rw [beN_length]; exact HR1.out.belHeap (HBW.out.then_ hb3))
  have cv3 := conv_reads (s := beN (crc s) 4) c3 (by rw [beN_length]; exact hr3)
  rw [beN_length] at cv1 cv3
  unfold strV at cv1 cv3
  have HB3 := Lib.hid ((HB1.out.then_ HBW.out).then_ hb3)
  clear hr3 hb3
  have hl1 : (beN s.length 4).length = 4 := beN_length _ _
  have hl2 : (beN (crc s) 4).length = 4 := beN_length _ _
  go_wp2
  go_ret2
  exact ⟨by rw [HCAT.out]; rfl, HB3.out⟩
end Go.Proofs.YtiajggmnfaidjaaGreatDoor
