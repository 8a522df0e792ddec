/-
  What CodecRows reaches beside the base.
-/
import Derived.Test.YtkklmflclmgjeaaGreatDoorP5
/-
  The document's codec: one value's bytes, Encode.
-/
set_option linter.unusedVariables false
set_option linter.unusedSimpArgs false
set_option linter.unusedVariables false
set_option linter.unusedSimpArgs false
namespace Go.Proofs.YtkklmflclmgjeaaGreatDoor
open Go.RowKit Go.Shelf Go.Lib
attribute [local go_sem] Oper.semAt_some

set_option maxRecDepth 100000 in
set_option maxHeartbeats 4000000 in
theorem r4one_num (name : ByteArray) (t z : Int) (null : Bool) (k n u : Int) (b : ByteArray) (hk : k ≠ 0) (ht : t = 1 ∨ t = 2) (hz : z = 1 ∨ z = 2 ∨ z = 4 ∨ z = 8) (m : Nat) (hm64 : m < 2 ^ 64) (hmv : (t = 1 ∧ m = u64of n) ∨ (t = 2 ∧ u = m)) (w : World) :
    Calls Tryz.prog 71 #[.agg #[.string name, .int .i64 t, .int .i64 z, .bool null], .agg #[.int .i64 k, .int .i64 n, .int .u64 u, .string b]] w (GivesB (1 :: beN m z.toNat) w) := by
  have hkb : (k == 0) = false := by rw [beq_eq_false_iff_ne]; exact hk
  have hu := u64of_wrap n
  have hmI : (m : Int) ≤ 18446744073709551615 := by omega
  obtain ⟨i0, hi0, hz0, hz1, hz2⟩ := info_parts infoU8
  have hz1I : 1 ≤ z := by omega
  have hz8I : z ≤ 8 := by omega
  clear hk
  obtain ⟨K, rfl⟩ := Int.eq_ofNat_of_zero_le (show 0 ≤ z by omega)
  clear hz
  rcases hmv with ⟨rfl, hmv⟩ | ⟨rfl, hmv⟩
  · rw [← hmv] at hu
    clear hmv ht hm64
    have hown0 : (((w.alloc (.cells #[.string name, .int .i64 1, .int .i64 K, .bool null] 44)).alloc (.cells #[.int .i64 k, .int .i64 n, .int .u64 u, .string b] 48)).alloc (.cells #[.int .u8 1] 5)).ownsRow w.heap.size 5 1 (.slice (some ⟨w.heap.size + 1 + 1, 0, none⟩) (1 + 0) 1) (1 + 0) ([.int .u8 1] ++ ((beN m K).take 0).map bv) :=
      ⟨rfl, .inr ⟨w.heap.size + 1 + 1, 1, #[.int .u8 1], rfl, by omega, (by have := World.alloc_heap_new ((w.alloc (.cells #[.string name, .int .i64 1, .int .i64 K, .bool null] 44)).alloc (.cells #[.int .i64 k, .int .i64 n, .int .u64 u, .string b] 48)) (.cells #[.int .u8 1] 5); simpa using this), Nat.le_refl _, by unfold maxLen; omega, rfl, rfl⟩⟩
    have HOWN0 := Lib.hid hown0
    clear hown0
    go_enter Tryz.func71, Tryz.ntmps71
    go_wp2
    go_loopw [5, 7] (fun v i wr => ∃ (j : Nat) (A : Option Addr) (c : Nat), j ≤ K ∧ i = .int .i64 ((K : Int) - 1 - j) ∧ v = .slice A (1 + j) c ∧ Hid (Bel w wr ∧ wr.ownsRow w.heap.size 5 1 (.slice A (1 + j) c) (1 + j) ([.int .u8 1] ++ ((beN m K).take j).map bv))) (fun _ i _ => (intOf i + 1).toNat)
    case atStart => exact ⟨0, _, 1, Nat.zero_le _, by simp, rfl, by (repeat (first | exact Below.refl _ _ | assumption | exact Bel.refl _ | refine Bel.alloc ?_ _ | refine Bel.drew ?_ | refine Bel.drewN ?_ _ | refine Bel.then_ ?_ (by assumption) | refine Bel.setCell ?_ (by first | (simp; done) | (simp; omega)) _)), HOWN0.out⟩
    case round =>
      obtain ⟨j, A, c, hj, rfl, rfl, HR⟩ := hrel
      by_cases hlt : j < K
      · have hge : decide ((K : Int) - 1 - j ≥ 0) = true := by simp; omega
        have hi0' : (0 : Int) ≤ (K : Int) - 1 - j := by omega
        have hvv : (m : Int) / 2 ^ (8 * (K - 1 - j)) % 256 = ((m / 256 ^ (K - 1 - j) % 256 : Nat) : Int) := by
          rw [show (256 : Nat) ^ (K - 1 - j) = 2 ^ (8 * (K - 1 - j)) by rw [Nat.pow_mul]]
          simp
        have hval : bv (UInt8.ofNat (m / 256 ^ (K - 1 - j) % 256)) = .int .u8 ((m / 256 ^ (K - 1 - j) % 256 : Nat) : Int) := by
          unfold bv
          simp
        have hnext : ([.int .u8 1] ++ ((beN m K).take j).map bv) ++ [.int .u8 ((m / 256 ^ (K - 1 - j) % 256 : Nat) : Int)] = [.int .u8 1] ++ ((beN m K).take (j + 1)).map bv := by
          rw [List.take_add_one, beN_at m K j hlt, List.map_append, ← List.append_assoc, ← hval]
          rfl
        generalize ((m / 256 ^ (K - 1 - j) % 256 : Nat) : Int) = vv at *
        have HNX := Lib.hid hnext
        have hal : Bel wr (wr.alloc (.cells #[.int .u8 vv] 5)) := (Bel.refl wr).alloc _
        have HAL := Lib.hid (HR.out.1.then_ hal)
        have HOW := Lib.hid (ownsRow_bel HR.out.2 hal)
        have HX : Hid (Reads (wr.alloc (.cells #[.int .u8 vv] 5)) (wr.alloc (.cells #[.int .u8 vv] 5)).heap.size 1 (some ⟨wr.heap.size, 0, none⟩) 1 [.int .u8 vv]) := by
          show Reads _ _ _ _ _ _
          refine reads_one ?_
          go_simp
        have hone1 : ∀ u ∈ [(.int .u8 vv : Value)], u.oneCell' = true := by simp [Value.oneCell']
        have h63 : 1 + j + 1 ≤ maxLen := by unfold maxLen; omega
        have hby : (1 + j + 1) * 1 ≤ 140737488355328 := by omega
        have hbase := HAL.out.size
        have hp1 : (0 : Nat) < 1 := by omega
        clear hval hnext hal
        go_wp2_with (at_builtin; refine wpList_append_any _ rfl (.tmp 33) (.tmp 40) _ rfl w.heap.size 5 i0 _ 1 1 Tryz.underlying63 hi0 hz0 hz1 hz2 rfl hp1 _ (1 + j) _ rfl HOW.out _ (some ⟨wr.heap.size, 0, none⟩) 1 1 _ rfl HX.out hone1 h63 hby hbase ?_; intro v9 w9 hown9 hg9 hat9; obtain ⟨A9, c9, rfl⟩ := row_form hown9; have hb9 : Bel w w9 := Below.grown HAL.out hg9 hbase (fun j e => (HOW.out.lt j e).1); have HN9 := Lib.hid (And.intro hb9 hown9); rw [HNX.out] at HN9; clear hown9 hg9 hat9 hb9)
        go_roundw
        case rel => exact ⟨j + 1, A9, c9, by omega, by go_num, rfl, HN9.out⟩
        case measure => simp [intOf]; omega
      · obtain rfl : j = K := by omega
        have HF : Hid (wr.ownsRow w.heap.size 5 1 (.slice A (1 :: beN m j).length c) (1 :: beN m j).length ((1 :: beN m j).map bv)) := by
          have := HR.out.2
          rw [List.take_of_length_le (by rw [beN_length]; exact Nat.le_refl _)] at this
          rw [show (1 :: beN m j).length = 1 + j by rw [List.length_cons, beN_length]; omega]
          exact this
        have hlen : 1 + j = (1 :: beN m j).length := by rw [List.length_cons, beN_length]; omega
        have HLEN := Lib.hid hlen
        clear hlen hlt
        go_wp2
        go_ret
        exact ⟨A, c, by rw [Int.toNat_natCast, ← HLEN.out]; rfl, by rw [Int.toNat_natCast]; exact HF.out, HR.out.1⟩
  · subst hmv
    clear ht hm64 hu
    have hown0 : (((w.alloc (.cells #[.string name, .int .i64 2, .int .i64 K, .bool null] 44)).alloc (.cells #[.int .i64 k, .int .i64 n, .int .u64 m, .string b] 48)).alloc (.cells #[.int .u8 1] 5)).ownsRow w.heap.size 5 1 (.slice (some ⟨w.heap.size + 1 + 1, 0, none⟩) (1 + 0) 1) (1 + 0) ([.int .u8 1] ++ ((beN m K).take 0).map bv) :=
      ⟨rfl, .inr ⟨w.heap.size + 1 + 1, 1, #[.int .u8 1], rfl, by omega, (by have := World.alloc_heap_new ((w.alloc (.cells #[.string name, .int .i64 2, .int .i64 K, .bool null] 44)).alloc (.cells #[.int .i64 k, .int .i64 n, .int .u64 m, .string b] 48)) (.cells #[.int .u8 1] 5); simpa using this), Nat.le_refl _, by unfold maxLen; omega, rfl, rfl⟩⟩
    have HOWN0 := Lib.hid hown0
    clear hown0
    go_enter Tryz.func71, Tryz.ntmps71
    go_wp2
    go_loopw [5, 7] (fun v i wr => ∃ (j : Nat) (A : Option Addr) (c : Nat), j ≤ K ∧ i = .int .i64 ((K : Int) - 1 - j) ∧ v = .slice A (1 + j) c ∧ Hid (Bel w wr ∧ wr.ownsRow w.heap.size 5 1 (.slice A (1 + j) c) (1 + j) ([.int .u8 1] ++ ((beN m K).take j).map bv))) (fun _ i _ => (intOf i + 1).toNat)
    case atStart => exact ⟨0, _, 1, Nat.zero_le _, by simp, rfl, by (repeat (first | exact Below.refl _ _ | assumption | exact Bel.refl _ | refine Bel.alloc ?_ _ | refine Bel.drew ?_ | refine Bel.drewN ?_ _ | refine Bel.then_ ?_ (by assumption) | refine Bel.setCell ?_ (by first | (simp; done) | (simp; omega)) _)), HOWN0.out⟩
    case round =>
      obtain ⟨j, A, c, hj, rfl, rfl, HR⟩ := hrel
      by_cases hlt : j < K
      · have hge : decide ((K : Int) - 1 - j ≥ 0) = true := by simp; omega
        have hi0' : (0 : Int) ≤ (K : Int) - 1 - j := by omega
        have hvv : (m : Int) / 2 ^ (8 * (K - 1 - j)) % 256 = ((m / 256 ^ (K - 1 - j) % 256 : Nat) : Int) := by
          rw [show (256 : Nat) ^ (K - 1 - j) = 2 ^ (8 * (K - 1 - j)) by rw [Nat.pow_mul]]
          simp
        have hval : bv (UInt8.ofNat (m / 256 ^ (K - 1 - j) % 256)) = .int .u8 ((m / 256 ^ (K - 1 - j) % 256 : Nat) : Int) := by
          unfold bv
          simp
        have hnext : ([.int .u8 1] ++ ((beN m K).take j).map bv) ++ [.int .u8 ((m / 256 ^ (K - 1 - j) % 256 : Nat) : Int)] = [.int .u8 1] ++ ((beN m K).take (j + 1)).map bv := by
          rw [List.take_add_one, beN_at m K j hlt, List.map_append, ← List.append_assoc, ← hval]
          rfl
        generalize ((m / 256 ^ (K - 1 - j) % 256 : Nat) : Int) = vv at *
        have HNX := Lib.hid hnext
        have hal : Bel wr (wr.alloc (.cells #[.int .u8 vv] 5)) := (Bel.refl wr).alloc _
        have HAL := Lib.hid (HR.out.1.then_ hal)
        have HOW := Lib.hid (ownsRow_bel HR.out.2 hal)
        have HX : Hid (Reads (wr.alloc (.cells #[.int .u8 vv] 5)) (wr.alloc (.cells #[.int .u8 vv] 5)).heap.size 1 (some ⟨wr.heap.size, 0, none⟩) 1 [.int .u8 vv]) := by
          show Reads _ _ _ _ _ _
          refine reads_one ?_
          go_simp
        have hone1 : ∀ u ∈ [(.int .u8 vv : Value)], u.oneCell' = true := by simp [Value.oneCell']
        have h63 : 1 + j + 1 ≤ maxLen := by unfold maxLen; omega
        have hby : (1 + j + 1) * 1 ≤ 140737488355328 := by omega
        have hbase := HAL.out.size
        have hp1 : (0 : Nat) < 1 := by omega
        clear hval hnext hal
        go_wp2_with (at_builtin; refine wpList_append_any _ rfl (.tmp 33) (.tmp 40) _ rfl w.heap.size 5 i0 _ 1 1 Tryz.underlying63 hi0 hz0 hz1 hz2 rfl hp1 _ (1 + j) _ rfl HOW.out _ (some ⟨wr.heap.size, 0, none⟩) 1 1 _ rfl HX.out hone1 h63 hby hbase ?_; intro v9 w9 hown9 hg9 hat9; obtain ⟨A9, c9, rfl⟩ := row_form hown9; have hb9 : Bel w w9 := Below.grown HAL.out hg9 hbase (fun j e => (HOW.out.lt j e).1); have HN9 := Lib.hid (And.intro hb9 hown9); rw [HNX.out] at HN9; clear hown9 hg9 hat9 hb9)
        go_roundw
        case rel => exact ⟨j + 1, A9, c9, by omega, by go_num, rfl, HN9.out⟩
        case measure => simp [intOf]; omega
      · obtain rfl : j = K := by omega
        have HF : Hid (wr.ownsRow w.heap.size 5 1 (.slice A (1 :: beN m j).length c) (1 :: beN m j).length ((1 :: beN m j).map bv)) := by
          have := HR.out.2
          rw [List.take_of_length_le (by rw [beN_length]; exact Nat.le_refl _)] at this
          rw [show (1 :: beN m j).length = 1 + j by rw [List.length_cons, beN_length]; omega]
          exact this
        have hlen : 1 + j = (1 :: beN m j).length := by rw [List.length_cons, beN_length]; omega
        have HLEN := Lib.hid hlen
        clear hlen hlt
        go_wp2
        go_ret
        exact ⟨A, c, by rw [Int.toNat_natCast, ← HLEN.out]; rfl, by rw [Int.toNat_natCast]; exact HF.out, HR.out.1⟩
set_option maxRecDepth 100000 in
set_option maxHeartbeats 4000000 in
theorem r4one_any (c : Col) (x : Val) (hf : fitsI c x = 0) (hw : x.Wf) (w : World) : Calls Tryz.prog 71 #[c.v, x.v] w (GivesB (encVal c x) w) := by
  obtain ⟨hr, hk, hc⟩ := fits_parts hf
  obtain ⟨hbare, hmay, hk0, hk4, hsz⟩ := check_parts hk
  obtain ⟨ht1, ht4, hnm, hzz⟩ := right_parts hr
  obtain ⟨name, t, z, null⟩ := c
  obtain ⟨k, n, u, b⟩ := x
  dsimp only at *
  obtain ⟨n0, n1, u0, u1⟩ := hw
  dsimp only at n0 n1 u0 u1
  unfold Col.v Val.v encVal encBody
  dsimp only
  obtain ⟨i0, hi0, hz0, hz1, hz2⟩ := info_parts infoU8
  have hp1 : (0 : Nat) < 1 := by omega
  by_cases h0 : k = 0
  · subst h0
    rw [if_pos rfl]
    clear hf hr hk hc hbare hmay hnm hzz n0 n1 u0 u1 hsz
    go_enter Tryz.func71, Tryz.ntmps71
    go_wp2
    go_ret
    exact ⟨_, _, rfl, ⟨rfl, .inr ⟨w.heap.size + 1 + 1, 1, #[.int .u8 0], rfl, by omega, (by have := World.alloc_heap_new ((w.alloc (.cells #[.string name, .int .i64 t, .int .i64 z, .bool null] 44)).alloc (.cells #[.int .i64 0, .int .i64 n, .int .u64 u, .string b] 48)) (.cells #[.int .u8 0] 5); simpa using this), Nat.le_refl _, by unfold maxLen; omega, rfl, rfl⟩⟩, by (repeat (first | exact Below.refl _ _ | assumption | exact Bel.refl _ | refine Bel.alloc ?_ _ | refine Bel.drew ?_ | refine Bel.drewN ?_ _ | refine Bel.then_ ?_ (by assumption) | refine Bel.setCell ?_ (by first | (simp; done) | (simp; omega)) _))⟩
  rw [if_neg h0]
  obtain ⟨hkt, hfit⟩ : k = t ∧ fitB t z ⟨k, n, u, b⟩ = true := by
    rcases hc with ⟨h, -⟩ | ⟨-, h1, h2⟩
    · exact absurd h h0
    · exact ⟨h1, h2⟩
  subst hkt
  have hcs : k = 1 ∨ k = 2 ∨ k = 3 ∨ k = 4 := by omega
  rcases hcs with rfl | rfl | rfl | rfl
  · rw [if_pos rfl]
    exact r4one_num name 1 z null 1 n u b (by decide) (.inl rfl) (size_num (.inl rfl) hzz) (u64of n) (u64of_lt n) (.inl ⟨rfl, rfl⟩) w
  · obtain ⟨m, rfl⟩ := Int.eq_ofNat_of_zero_le u0
    rw [if_neg (by decide), if_pos rfl, Int.toNat_natCast]
    exact r4one_num name 2 z null 2 n m b (by decide) (.inr rfl) (size_num (.inr rfl) hzz) m (by omega) (.inr ⟨rfl, rfl⟩) w
  · rw [if_neg (by decide), if_neg (by decide), if_pos rfl]
    have hn : n = 0 ∨ n = 1 := by
      unfold mayB at hmay
      exact of_decide_eq_true hmay rfl
    have hu : UInt8.ofNat (u64of n % 256) = UInt8.ofNat n.toNat := by rcases hn with rfl | rfl <;> rfl
    rw [hu]
    clear hu hf hr hk hc hbare hmay hfit hzz hnm n0 n1 u0 u1 hsz h0
    rcases hn with rfl | rfl
    · have hal : Bel w ((((w.alloc (.cells #[.string name, .int .i64 3, .int .i64 z, .bool null] 44)).alloc (.cells #[.int .i64 3, .int .i64 0, .int .u64 u, .string b] 48)).alloc (.cells #[.int .u8 1] 5)).alloc (.cells #[.int .u8 0] 5)) := ((((Bel.refl w).alloc _).alloc _).alloc _).alloc _
      have hown : ((((w.alloc (.cells #[.string name, .int .i64 3, .int .i64 z, .bool null] 44)).alloc (.cells #[.int .i64 3, .int .i64 0, .int .u64 u, .string b] 48)).alloc (.cells #[.int .u8 1] 5)).alloc (.cells #[.int .u8 0] 5)).ownsRow w.heap.size 5 1 (.slice (some ⟨w.heap.size + 1 + 1, 0, none⟩) 1 1) 1 [.int .u8 1] :=
        World.ownsRow.alloc ⟨rfl, .inr ⟨w.heap.size + 1 + 1, 1, #[.int .u8 1], rfl, by omega, (by have := World.alloc_heap_new ((w.alloc (.cells #[.string name, .int .i64 3, .int .i64 z, .bool null] 44)).alloc (.cells #[.int .i64 3, .int .i64 0, .int .u64 u, .string b] 48)) (.cells #[.int .u8 1] 5); simpa using this), Nat.le_refl _, by unfold maxLen; omega, rfl, rfl⟩⟩ _
      have HX : Hid (Reads ((((w.alloc (.cells #[.string name, .int .i64 3, .int .i64 z, .bool null] 44)).alloc (.cells #[.int .i64 3, .int .i64 0, .int .u64 u, .string b] 48)).alloc (.cells #[.int .u8 1] 5)).alloc (.cells #[.int .u8 0] 5)) ((((w.alloc (.cells #[.string name, .int .i64 3, .int .i64 z, .bool null] 44)).alloc (.cells #[.int .i64 3, .int .i64 0, .int .u64 u, .string b] 48)).alloc (.cells #[.int .u8 1] 5)).alloc (.cells #[.int .u8 0] 5)).heap.size 1 (some ⟨w.heap.size + 1 + 1 + 1, 0, none⟩) 1 [.int .u8 0]) := by
        show Reads _ _ _ _ _ _
        refine reads_one ?_
        go_simp
      have HOWN := Lib.hid hown
      have HAL := Lib.hid hal
      have hone1 : ∀ u ∈ [(.int .u8 0 : Value)], u.oneCell' = true := by simp [Value.oneCell']
      have h63 : 1 + 1 ≤ maxLen := by unfold maxLen; omega
      have hby : (1 + 1) * 1 ≤ 140737488355328 := by omega
      have hbase := hal.size
      clear hown hal
      go_enter Tryz.func71, Tryz.ntmps71
      go_wp2_with (at_builtin; refine wpList_append_any _ rfl (.tmp 44) (.tmp 48) _ rfl w.heap.size 5 i0 _ 1 1 Tryz.underlying63 hi0 hz0 hz1 hz2 rfl hp1 _ 1 _ rfl HOWN.out _ (some ⟨w.heap.size + 1 + 1 + 1, 0, none⟩) 1 1 _ rfl HX.out hone1 h63 hby hbase ?_; intro v9 w9 hown9 hg9 hat9; obtain ⟨A9, c9, rfl⟩ := row_form hown9; have hb9 : Bel w w9 := Below.grown HAL.out hg9 hbase (fun j e => (HOWN.out.lt j e).1); have HN9 := Lib.hid (And.intro hb9 hown9); clear hown9 hg9 hat9 hb9)
      go_ret
      exact ⟨A9, c9, rfl, HN9.out.2, HN9.out.1⟩
    · have hal : Bel w ((((w.alloc (.cells #[.string name, .int .i64 3, .int .i64 z, .bool null] 44)).alloc (.cells #[.int .i64 3, .int .i64 1, .int .u64 u, .string b] 48)).alloc (.cells #[.int .u8 1] 5)).alloc (.cells #[.int .u8 1] 5)) := ((((Bel.refl w).alloc _).alloc _).alloc _).alloc _
      have hown : ((((w.alloc (.cells #[.string name, .int .i64 3, .int .i64 z, .bool null] 44)).alloc (.cells #[.int .i64 3, .int .i64 1, .int .u64 u, .string b] 48)).alloc (.cells #[.int .u8 1] 5)).alloc (.cells #[.int .u8 1] 5)).ownsRow w.heap.size 5 1 (.slice (some ⟨w.heap.size + 1 + 1, 0, none⟩) 1 1) 1 [.int .u8 1] :=
        World.ownsRow.alloc ⟨rfl, .inr ⟨w.heap.size + 1 + 1, 1, #[.int .u8 1], rfl, by omega, (by have := World.alloc_heap_new ((w.alloc (.cells #[.string name, .int .i64 3, .int .i64 z, .bool null] 44)).alloc (.cells #[.int .i64 3, .int .i64 1, .int .u64 u, .string b] 48)) (.cells #[.int .u8 1] 5); simpa using this), Nat.le_refl _, by unfold maxLen; omega, rfl, rfl⟩⟩ _
      have HX : Hid (Reads ((((w.alloc (.cells #[.string name, .int .i64 3, .int .i64 z, .bool null] 44)).alloc (.cells #[.int .i64 3, .int .i64 1, .int .u64 u, .string b] 48)).alloc (.cells #[.int .u8 1] 5)).alloc (.cells #[.int .u8 1] 5)) ((((w.alloc (.cells #[.string name, .int .i64 3, .int .i64 z, .bool null] 44)).alloc (.cells #[.int .i64 3, .int .i64 1, .int .u64 u, .string b] 48)).alloc (.cells #[.int .u8 1] 5)).alloc (.cells #[.int .u8 1] 5)).heap.size 1 (some ⟨w.heap.size + 1 + 1 + 1, 0, none⟩) 1 [.int .u8 1]) := by
        show Reads _ _ _ _ _ _
        refine reads_one ?_
        go_simp
      have HOWN := Lib.hid hown
      have HAL := Lib.hid hal
      have hone1 : ∀ u ∈ [(.int .u8 1 : Value)], u.oneCell' = true := by simp [Value.oneCell']
      have h63 : 1 + 1 ≤ maxLen := by unfold maxLen; omega
      have hby : (1 + 1) * 1 ≤ 140737488355328 := by omega
      have hbase := hal.size
      clear hown hal
      go_enter Tryz.func71, Tryz.ntmps71
      go_wp2_with (at_builtin; refine wpList_append_any _ rfl (.tmp 44) (.tmp 48) _ rfl w.heap.size 5 i0 _ 1 1 Tryz.underlying63 hi0 hz0 hz1 hz2 rfl hp1 _ 1 _ rfl HOWN.out _ (some ⟨w.heap.size + 1 + 1 + 1, 0, none⟩) 1 1 _ rfl HX.out hone1 h63 hby hbase ?_; intro v9 w9 hown9 hg9 hat9; obtain ⟨A9, c9, rfl⟩ := row_form hown9; have hb9 : Bel w w9 := Below.grown HAL.out hg9 hbase (fun j e => (HOWN.out.lt j e).1); have HN9 := Lib.hid (And.intro hb9 hown9); clear hown9 hg9 hat9 hb9)
      go_ret
      exact ⟨A9, c9, rfl, HN9.out.2, HN9.out.1⟩
  · rw [if_neg (by decide), if_neg (by decide), if_neg (by decide)]
    have HF := Lib.hid (fun V => r2Text_any b (by omega) V)
    have htl : (textB b.data.toList).length ≤ 300 := by
      have hbl : b.data.toList.length = b.size := rfl
      unfold textB
      rw [List.length_append, numB_length, hbl]
      have := needN_8 (n := b.size) (by omega)
      omega
    have htc := bv_one (textB b.data.toList)
    have hlist : (1 :: textB b.data.toList).map bv = [.int .u8 1] ++ (textB b.data.toList).map bv := rfl
    have hlen : (1 :: textB b.data.toList).length = 1 + (textB b.data.toList).length := by rw [List.length_cons]; omega
    unfold GivesB
    rw [hlist, hlen]
    have hal : Bel w (((w.alloc (.cells #[.string name, .int .i64 4, .int .i64 z, .bool null] 44)).alloc (.cells #[.int .i64 4, .int .i64 n, .int .u64 u, .string b] 48)).alloc (.cells #[.int .u8 1] 5)) := (((Bel.refl w).alloc _).alloc _).alloc _
    have hown : (((w.alloc (.cells #[.string name, .int .i64 4, .int .i64 z, .bool null] 44)).alloc (.cells #[.int .i64 4, .int .i64 n, .int .u64 u, .string b] 48)).alloc (.cells #[.int .u8 1] 5)).ownsRow w.heap.size 5 1 (.slice (some ⟨w.heap.size + 1 + 1, 0, none⟩) 1 1) 1 [.int .u8 1] :=
      ⟨rfl, .inr ⟨w.heap.size + 1 + 1, 1, #[.int .u8 1], rfl, by omega, (by have := World.alloc_heap_new ((w.alloc (.cells #[.string name, .int .i64 4, .int .i64 z, .bool null] 44)).alloc (.cells #[.int .i64 4, .int .i64 n, .int .u64 u, .string b] 48)) (.cells #[.int .u8 1] 5); simpa using this), Nat.le_refl _, by unfold maxLen; omega, rfl, rfl⟩⟩
    have HOWN := Lib.hid hown
    have HAL := Lib.hid hal
    have h63 : 1 + (textB b.data.toList).length ≤ maxLen := by unfold maxLen; omega
    have hby : (1 + (textB b.data.toList).length) * 1 ≤ 140737488355328 := by omega
    clear hf hr hk hc hbare hmay hfit hzz hnm n0 n1 u0 u1 hsz h0 hlist hlen hown hal htl
    generalize textB b.data.toList = s at *
    go_enter Tryz.func71, Tryz.ntmps71
    go_wp2_with fail
    refine (HF.out _).mono ?_
    rintro e w1 ⟨A1, c1, rfl, hown1, hb1⟩
    have HOW := Lib.hid (ownsRow_bel HOWN.out hb1)
    have HX := Lib.hid (Reads.of_own hown1)
    have HB1 := Lib.hid (HAL.out.then_ hb1)
    have hbase := HB1.out.size
    clear hown1 hb1
    go_wp2_with (at_builtin; refine wpList_append_any _ rfl (.tmp 52) (.tmp 55) _ rfl w.heap.size 5 i0 _ 1 1 Tryz.underlying63 hi0 hz0 hz1 hz2 rfl hp1 _ 1 _ rfl HOW.out _ A1 s.length c1 _ rfl HX.out htc h63 hby hbase ?_; intro v9 w9 hown9 hg9 hat9; obtain ⟨A9, c9, rfl⟩ := row_form hown9; have hb9 : Bel w w9 := Below.grown HB1.out hg9 hbase (fun j e => (HOW.out.lt j e).1); have HN9 := Lib.hid (And.intro hb9 hown9); clear hown9 hg9 hat9 hb9)
    go_ret
    exact ⟨A9, c9, rfl, HN9.out.2, HN9.out.1⟩
end Go.Proofs.YtkklmflclmgjeaaGreatDoor

/-
  The document's answer for layer 3: columns, which numbers with a sign fit one.
-/
set_option linter.unusedVariables false
set_option linter.unusedSimpArgs false
set_option linter.unusedVariables false
set_option linter.unusedSimpArgs false
namespace Go.Proofs.YtkklmflclmgjeaaGreatDoor
open Go.RowKit Go.Shelf Go.Lib
attribute [local go_sem] Oper.semAt_some

theorem tleast_any (z : Int) (hz : z = 1 ∨ z = 2 ∨ z = 4 ∨ z = 8) (w : World) : Calls Tryz.prog 58 #[.int .i64 z] w fun e w' => e = .returned (.int .i64 (leastI z)) ∧ Bel w w' := by
  rcases hz with rfl | rfl | rfl | rfl
  all_goals
    go_enter Tryz.func58, Tryz.ntmps58
    go_wp2
    go_ret
    exact ⟨rfl, by (repeat (first | exact Below.refl _ _ | assumption | exact Bel.refl _ | refine Bel.alloc ?_ _ | refine Bel.drew ?_ | refine Bel.drewN ?_ _ | refine Bel.then_ ?_ (by assumption) | refine Bel.setCell ?_ (by first | (simp; done) | (simp; omega)) _))⟩
theorem tmost_any (z : Int) (hz : z = 1 ∨ z = 2 ∨ z = 4 ∨ z = 8) (w : World) : Calls Tryz.prog 59 #[.int .i64 z] w fun e w' => e = .returned (.int .u64 (mostI z)) ∧ Bel w w' := by
  rcases hz with rfl | rfl | rfl | rfl
  all_goals
    go_enter Tryz.func59, Tryz.ntmps59
    go_wp2
    go_ret
    exact ⟨rfl, by (repeat (first | exact Below.refl _ _ | assumption | exact Bel.refl _ | refine Bel.alloc ?_ _ | refine Bel.drew ?_ | refine Bel.drewN ?_ _ | refine Bel.then_ ?_ (by assumption) | refine Bel.setCell ?_ (by first | (simp; done) | (simp; omega)) _))⟩
set_option maxRecDepth 100000 in
set_option maxHeartbeats 8000000 in
theorem tFitsInt_any (c : Col) (hm : c.name.size ≤ 9223372036854775807) (x : Val) (hx : x.Wf) (Hrb0 : rightB c = true) (Hci0 : checkI x = 0) (Hk0 : x.k = 1) (Ht0 : c.t = 1) (w : World) : Calls Tryz.prog 24 #[c.v, x.v] w fun e w' => e = .returned (.int .i64 (fitsI c x)) ∧ Bel w w' := by
  have HCO := Lib.hid (fun V => tcolumn_any c hm V)
  have HCH := Lib.hid (fun V => vrCheck_any x V)
  obtain ⟨R, hR⟩ : ∃ R, R = fitsI c x := ⟨_, rfl⟩
  rw [← hR]
  have HR := Lib.hid hR
  clear hR
  obtain ⟨rb, hrb⟩ : ∃ rb, rb = rightB c := ⟨_, rfl⟩
  rw [← hrb] at HCO
  have HRB := Lib.hid hrb
  obtain ⟨ci, hci⟩ : ∃ ci, ci = checkI x := ⟨_, rfl⟩
  rw [← hci] at HCH
  have HCI := Lib.hid hci
  clear hrb hci hm
  obtain ⟨name, t, z, null⟩ := c
  obtain ⟨k, n, u, b⟩ := x
  obtain ⟨n0, n1, u0, u1⟩ := hx
  unfold Val.v Col.v at *
  dsimp only at *
  have HCL : Hid (∀ V, Bel ((w.alloc (.cells #[.string name, .int .i64 t, .int .i64 z, .bool null] 44)).alloc (.cells #[.int .i64 k, .int .i64 n, .int .u64 u, .string b] 48)) V →
    (V.cell? ⟨w.heap.size, 0, none⟩ = some (.string name) ∧ V.cell? ⟨w.heap.size, 1, none⟩ = some (.int .i64 t) ∧ V.cell? ⟨w.heap.size, 2, none⟩ = some (.int .i64 z) ∧ V.cell? ⟨w.heap.size, 3, none⟩ = some (.bool null) ∧
     V.cell? ⟨w.heap.size + 1, 0, none⟩ = some (.int .i64 k) ∧ V.cell? ⟨w.heap.size + 1, 1, none⟩ = some (.int .i64 n) ∧ V.cell? ⟨w.heap.size + 1, 2, none⟩ = some (.int .u64 u) ∧ V.cell? ⟨w.heap.size + 1, 3, none⟩ = some (.string b)) ∧ Bel w V) :=
    fun V h => ⟨⟨h.c (by go_simp), h.c (by go_simp), h.c (by go_simp), h.c (by go_simp), h.c (by go_simp), h.c (by go_simp), h.c (by go_simp), h.c (by go_simp)⟩, (((Bel.refl w).alloc _).alloc _).then_ h⟩
  have E1 : rb = true := by rw [HRB.out]; exact Hrb0
  have E2 : ci = 0 := by rw [HCI.out]; exact Hci0
  subst E1 E2
  clear Hrb0 Hci0
  subst Hk0 Ht0
  have HT : Hid ((1 : Int) ≤ 1 ∧ (1 : Int) ≤ 4) := ⟨by decide, by decide⟩
  have HSZ : Hid (sizeB 1 z = true) := by show _ = _; have h := HRB.out; unfold rightB at h; simp at h; exact h.2
  have hR1 : R = if fitB 1 z ⟨1, n, u, b⟩ = false then 133 else 0 := by
    rw [HR.out]; unfold fitsI; rw [if_neg (by rw [← HRB.out]; simp), if_neg (by rw [← HCI.out]; simp), if_neg (by simp), if_neg (by simp)]
  clear HR HRB HCI
  · have hz : z = 1 ∨ z = 2 ∨ z = 4 ∨ z = 8 := by have := HSZ.out; unfold sizeB at this; simpa using this
    have HR1 : Hid (R = if leastI z ≤ n ∧ n ≤ -(leastI z + 1) then 0 else 133) := by show _ = _; rw [hR1]; unfold fitB; simp only [if_true]; split <;> simp_all
    have HLE := Lib.hid (fun V => tleast_any z hz V)
    clear hR1 HSZ
    rcases hz with rfl | rfl | rfl | rfl
    · simp only [leastI] at HLE HR1
      have v1 : IntKind.i64.wrap (-127) = -127 := by decide
      have v2 : IntKind.i64.wrap 127 = 127 := by decide
      have v3 : IntKind.i64.wrap (-128 + 1) = -127 := by decide
      have v4 : IntKind.i64.wrap (-(-127)) = 127 := by decide
      go_enter Tryz.func24, Tryz.ntmps24
      go_wp2_with (first | (go_at_call 56; refine (HCO.out _).mono ?_; rintro e w4 ⟨rfl, hb4⟩; obtain ⟨⟨a0, a1, a2, a3, c0, c1, c2, c3⟩, hB4⟩ := HCL.out _ hb4) | (go_at_call 57; refine (HCH.out _).mono ?_; rintro e w5 ⟨rfl, hb5⟩; obtain ⟨⟨d0, d1, d2, d3, e0, e1, e2, e3⟩, hB5⟩ := HCL.out _ (hb4.then_ hb5)))
      have hS : ∀ V, Bel w5 V → (V.cell? ⟨w.heap.size, 2, none⟩ = some (.int .i64 1) ∧ V.cell? ⟨w.heap.size + 1, 1, none⟩ = some (.int .i64 n) ∧ V.cell? ⟨w.heap.size + 1, 2, none⟩ = some (.int .u64 u) ∧ Bel w5 V) := fun V h => ⟨h.c d2, h.c e1, h.c e2, h⟩
      by_cases hl : n < -128
      · have hR2 : R = 133 := by rw [HR1.out, if_neg (by omega)]
        refine wp_region_noPanic ?_
        refine wp_region_held_drew (S := (fun V : World => V.cell? ⟨w.heap.size, 2, none⟩ = some (.int .i64 1) ∧ V.cell? ⟨w.heap.size + 1, 1, none⟩ = some (.int .i64 n) ∧ V.cell? ⟨w.heap.size + 1, 2, none⟩ = some (.int .u64 u) ∧ Bel w5 V)) (by kernel_rfl) ?_ (fun hHr1_0 => ?_)
        · (try dsimp only); (first | assumption | exact hS _ (Bel.refl w5).drew | exact hS _ hB6 | exact hS _ (hB6.then_ hb7))
        refine wpAnyH_take (i := 0) (oi := _) (v := ?vr1_1_0) rfl (by kernel_rfl) (by kernel_rfl) (by kernel_rfl) ?hqr1_1_0 (Or.inl ⟨by kernel_rfl, ?hyr1_1_0⟩) (by assumption) ?restr1_1_0
        case hqr1_1_0 => exact fun _ _ _ h => h
        case hyr1_1_0 => (intro w hSw; (try dsimp only at hSw); go_simp; try with_reducible rfl)
        try simp only [Act.put, List.getElem_toArray, List.getElem_cons_succ, List.getElem_cons_zero, List.setIfInBounds_toArray, List.set_cons_zero, List.set_cons_succ]
        refine wpAnyH_take (i := 1) (oi := _) (v := ?vr1_1_1) rfl (by kernel_rfl) (by kernel_rfl) (by kernel_rfl) ?hqr1_1_1 (Or.inl ⟨by kernel_rfl, ?hyr1_1_1⟩) (by assumption) ?restr1_1_1
        case hqr1_1_1 => exact fun _ _ _ h => h
        case hyr1_1_1 => (intro w hSw; (try dsimp only at hSw); go_simp; try with_reducible rfl)
        try simp only [Act.put, List.getElem_toArray, List.getElem_cons_succ, List.getElem_cons_zero, List.setIfInBounds_toArray, List.set_cons_zero, List.set_cons_succ]
        refine wpAnyH_take (i := 2) (oi := _) (v := ?vr1_1_2) rfl (by kernel_rfl) (by kernel_rfl) (by kernel_rfl) ?hqr1_1_2 (Or.inl ⟨by kernel_rfl, ?hyr1_1_2⟩) (by assumption) ?restr1_1_2
        case hqr1_1_2 => exact fun _ _ _ h => h
        case hyr1_1_2 => (intro w hSw; (try dsimp only at hSw); go_simp; try with_reducible rfl)
        try simp only [Act.put, List.getElem_toArray, List.getElem_cons_succ, List.getElem_cons_zero, List.setIfInBounds_toArray, List.set_cons_zero, List.set_cons_succ]
        refine wpAnyH_take (i := 3) (oi := _) (v := ?vr1_1_3) rfl (by kernel_rfl) (by kernel_rfl) (by kernel_rfl) ?hqr1_1_3 (Or.inl ⟨by kernel_rfl, ?hyr1_1_3⟩) (by assumption) ?restr1_1_3
        case hqr1_1_3 => exact fun _ _ _ h => h
        case hyr1_1_3 => (intro w hSw; (try dsimp only at hSw); go_simp; try with_reducible rfl)
        try simp only [Act.put, List.getElem_toArray, List.getElem_cons_succ, List.getElem_cons_zero, List.setIfInBounds_toArray, List.set_cons_zero, List.set_cons_succ]
        refine wpAnyH_take (i := 4) (oi := _) (v := ?vr1_1_4) rfl (by kernel_rfl) (by kernel_rfl) (by kernel_rfl) ?hqr1_1_4 (Or.inl ⟨by kernel_rfl, ?hyr1_1_4⟩) (by assumption) ?restr1_1_4
        case hqr1_1_4 => exact fun _ _ _ h => h
        case hyr1_1_4 => (intro w hSw; (try dsimp only at hSw); go_simp; try with_reducible rfl)
        try simp only [Act.put, List.getElem_toArray, List.getElem_cons_succ, List.getElem_cons_zero, List.setIfInBounds_toArray, List.set_cons_zero, List.set_cons_succ]
        refine wpAnyH_take (i := 5) (oi := _) (v := ?vr1_1_5) rfl (by kernel_rfl) (by kernel_rfl) (by kernel_rfl) ?hqr1_1_5 (Or.inl ⟨by kernel_rfl, ?hyr1_1_5⟩) (by assumption) ?restr1_1_5
        case hqr1_1_5 => exact fun _ _ _ h => h
        case hyr1_1_5 => (intro w hSw; (try dsimp only at hSw); go_simp; try with_reducible rfl)
        try simp only [Act.put, List.getElem_toArray, List.getElem_cons_succ, List.getElem_cons_zero, List.setIfInBounds_toArray, List.set_cons_zero, List.set_cons_succ]
        refine wpAnyH_take (i := 6) (oi := _) (v := ?vr1_1_6) rfl (by kernel_rfl) (by kernel_rfl) (by kernel_rfl) ?hqr1_1_6 (Or.inl ⟨by kernel_rfl, ?hyr1_1_6⟩) (by assumption) ?restr1_1_6
        case hqr1_1_6 => exact fun _ _ _ h => h
        case hyr1_1_6 => (intro w hSw; (try dsimp only at hSw); go_simp; try with_reducible rfl)
        try simp only [Act.put, List.getElem_toArray, List.getElem_cons_succ, List.getElem_cons_zero, List.setIfInBounds_toArray, List.set_cons_zero, List.set_cons_succ]
        refine wpAnyH_ready (rs := [7]) (by kernel_rfl) (by simp) ?_
        refine AllReadyH.cons (o := _) rfl (fun K hK => ?_) AllReadyH.nil
        go_simp
        (go_at_call 58; refine (HLE.out _).mono ?_; rintro e w6 ⟨rfl, hb6⟩; have hB6 : Bel w5 w6 := Bel.then_ (Bel.refl w5).drew hb6)
        try (go_wp2_with fail)
        refine hK.out _ _ ?_ (fun hHr1_1 => ?_)
        · (try dsimp only); (first | assumption | exact hS _ (Bel.refl w5).drew | exact hS _ hB6 | exact hS _ (hB6.then_ hb7))
        clear hK K hHr1_0
        try simp only [Act.put, List.getElem_toArray, List.getElem_cons_succ, List.getElem_cons_zero, List.setIfInBounds_toArray, List.set_cons_zero, List.set_cons_succ]
        refine wpAnyH_take (i := 8) (oi := _) (v := ?vr1_1_8) rfl (by kernel_rfl) (by kernel_rfl) (by kernel_rfl) ?hqr1_1_8 (Or.inl ⟨by kernel_rfl, ?hyr1_1_8⟩) (by assumption) ?restr1_1_8
        case hqr1_1_8 => exact fun _ _ _ h => h
        case hyr1_1_8 => (intro w hSw; (try dsimp only at hSw); go_simp; try with_reducible rfl)
        try simp only [Act.put, List.getElem_toArray, List.getElem_cons_succ, List.getElem_cons_zero, List.setIfInBounds_toArray, List.set_cons_zero, List.set_cons_succ]
        refine wpAnyH_take (i := 9) (oi := _) (v := ?vr1_1_9) rfl (by kernel_rfl) (by kernel_rfl) (by kernel_rfl) ?hqr1_1_9 (Or.inl ⟨by kernel_rfl, ?hyr1_1_9⟩) (by assumption) ?restr1_1_9
        case hqr1_1_9 => exact fun _ _ _ h => h
        case hyr1_1_9 => (intro w hSw; (try dsimp only at hSw); go_simp; try with_reducible rfl)
        try simp only [Act.put, List.getElem_toArray, List.getElem_cons_succ, List.getElem_cons_zero, List.setIfInBounds_toArray, List.set_cons_zero, List.set_cons_succ]
        refine wpAnyH_take (i := 10) (oi := _) (v := undef) rfl (by kernel_rfl) (by kernel_rfl) (by kernel_rfl) (fun _ _ _ h => h) (Or.inr ⟨by kernel_rfl, rfl⟩) (by assumption) ?restr1_1_10
        try simp only [Act.put, List.getElem_toArray, List.getElem_cons_succ, List.getElem_cons_zero, List.setIfInBounds_toArray, List.set_cons_zero, List.set_cons_succ]
        refine wpAnyH_take (i := 11) (oi := _) (v := undef) rfl (by kernel_rfl) (by kernel_rfl) (by kernel_rfl) (fun _ _ _ h => h) (Or.inr ⟨by kernel_rfl, rfl⟩) (by assumption) ?restr1_1_11
        try simp only [Act.put, List.getElem_toArray, List.getElem_cons_succ, List.getElem_cons_zero, List.setIfInBounds_toArray, List.set_cons_zero, List.set_cons_succ]
        refine wpAnyH_take (i := 12) (oi := _) (v := undef) rfl (by kernel_rfl) (by kernel_rfl) (by kernel_rfl) (fun _ _ _ h => h) (Or.inr ⟨by kernel_rfl, rfl⟩) (by assumption) ?restr1_1_12
        try simp only [Act.put, List.getElem_toArray, List.getElem_cons_succ, List.getElem_cons_zero, List.setIfInBounds_toArray, List.set_cons_zero, List.set_cons_succ]
        refine wpAnyH_take (i := 13) (oi := _) (v := undef) rfl (by kernel_rfl) (by kernel_rfl) (by kernel_rfl) (fun _ _ _ h => h) (Or.inr ⟨by kernel_rfl, rfl⟩) (by assumption) ?restr1_1_13
        try simp only [Act.put, List.getElem_toArray, List.getElem_cons_succ, List.getElem_cons_zero, List.setIfInBounds_toArray, List.set_cons_zero, List.set_cons_succ]
        refine wpAnyH_take (i := 14) (oi := _) (v := undef) rfl (by kernel_rfl) (by kernel_rfl) (by kernel_rfl) (fun _ _ _ h => h) (Or.inr ⟨by kernel_rfl, rfl⟩) (by assumption) ?restr1_1_14
        try simp only [Act.put, List.getElem_toArray, List.getElem_cons_succ, List.getElem_cons_zero, List.setIfInBounds_toArray, List.set_cons_zero, List.set_cons_succ]
        refine wpAnyH_take (i := 15) (oi := _) (v := undef) rfl (by kernel_rfl) (by kernel_rfl) (by kernel_rfl) (fun _ _ _ h => h) (Or.inr ⟨by kernel_rfl, rfl⟩) (by assumption) ?restr1_1_15
        try simp only [Act.put, List.getElem_toArray, List.getElem_cons_succ, List.getElem_cons_zero, List.setIfInBounds_toArray, List.set_cons_zero, List.set_cons_succ]
        refine wpAnyH_take (i := 16) (oi := _) (v := undef) rfl (by kernel_rfl) (by kernel_rfl) (by kernel_rfl) (fun _ _ _ h => h) (Or.inr ⟨by kernel_rfl, rfl⟩) (by assumption) ?restr1_1_16
        try simp only [Act.put, List.getElem_toArray, List.getElem_cons_succ, List.getElem_cons_zero, List.setIfInBounds_toArray, List.set_cons_zero, List.set_cons_succ]
        refine wpAnyH_take (i := 17) (oi := _) (v := undef) rfl (by kernel_rfl) (by kernel_rfl) (by kernel_rfl) (fun _ _ _ h => h) (Or.inr ⟨by kernel_rfl, rfl⟩) (by assumption) ?restr1_1_17
        try simp only [Act.put, List.getElem_toArray, List.getElem_cons_succ, List.getElem_cons_zero, List.setIfInBounds_toArray, List.set_cons_zero, List.set_cons_succ]
        refine wpAnyH_take (i := 18) (oi := _) (v := ?vr1_1_18) rfl (by kernel_rfl) (by kernel_rfl) (by kernel_rfl) ?hqr1_1_18 (Or.inl ⟨by kernel_rfl, ?hyr1_1_18⟩) (by assumption) ?restr1_1_18
        case hqr1_1_18 => exact fun _ _ _ h => h
        case hyr1_1_18 => (intro w hSw; (try dsimp only at hSw); go_simp; try with_reducible rfl)
        try simp only [Act.put, List.getElem_toArray, List.getElem_cons_succ, List.getElem_cons_zero, List.setIfInBounds_toArray, List.set_cons_zero, List.set_cons_succ]
        refine wpAnyH_take (i := 19) (oi := _) (v := ?vr1_1_19) rfl (by kernel_rfl) (by kernel_rfl) (by kernel_rfl) ?hqr1_1_19 (Or.inl ⟨by kernel_rfl, ?hyr1_1_19⟩) (by assumption) ?restr1_1_19
        case hqr1_1_19 => exact fun _ _ _ h => h
        case hyr1_1_19 => (intro w hSw; (try dsimp only at hSw); go_simp; try with_reducible rfl)
        try simp only [Act.put, List.getElem_toArray, List.getElem_cons_succ, List.getElem_cons_zero, List.setIfInBounds_toArray, List.set_cons_zero, List.set_cons_succ]
        refine wpAnyH_take (i := 20) (oi := _) (v := ?vr1_1_20) rfl (by kernel_rfl) (by kernel_rfl) (by kernel_rfl) ?hqr1_1_20 (Or.inl ⟨by kernel_rfl, ?hyr1_1_20⟩) (by assumption) ?restr1_1_20
        case hqr1_1_20 => exact fun _ _ _ h => h
        case hyr1_1_20 => (intro w hSw; (try dsimp only at hSw); go_simp; try with_reducible rfl)
        try simp only [Act.put, List.getElem_toArray, List.getElem_cons_succ, List.getElem_cons_zero, List.setIfInBounds_toArray, List.set_cons_zero, List.set_cons_succ]
        refine wpAnyH_done (by kernel_rfl) ?_ _
        refine NoPanic.normal ?_
        go_wp2
        go_ret
        exact ⟨by rw [hR2]; rfl, hB5.then_ (by assumption : _ ∧ _ ∧ _ ∧ Bel w5 _).2.2.2⟩
      · have hlb : decide (n < -128) = false := by simp; omega
        by_cases hu : 127 < n
        · have hR2 : R = 133 := by rw [HR1.out, if_neg (by omega)]
          refine wp_region_noPanic ?_
          refine wp_region_held_drew (S := (fun V : World => V.cell? ⟨w.heap.size, 2, none⟩ = some (.int .i64 1) ∧ V.cell? ⟨w.heap.size + 1, 1, none⟩ = some (.int .i64 n) ∧ V.cell? ⟨w.heap.size + 1, 2, none⟩ = some (.int .u64 u) ∧ Bel w5 V)) (by kernel_rfl) ?_ (fun hHr2_0 => ?_)
          · (try dsimp only); (first | assumption | exact hS _ (Bel.refl w5).drew | exact hS _ hB6 | exact hS _ (hB6.then_ hb7))
          refine wpAnyH_take (i := 0) (oi := _) (v := ?vr2_1_0) rfl (by kernel_rfl) (by kernel_rfl) (by kernel_rfl) ?hqr2_1_0 (Or.inl ⟨by kernel_rfl, ?hyr2_1_0⟩) (by assumption) ?restr2_1_0
          case hqr2_1_0 => exact fun _ _ _ h => h
          case hyr2_1_0 => (intro w hSw; (try dsimp only at hSw); go_simp; try with_reducible rfl)
          try simp only [Act.put, List.getElem_toArray, List.getElem_cons_succ, List.getElem_cons_zero, List.setIfInBounds_toArray, List.set_cons_zero, List.set_cons_succ]
          refine wpAnyH_take (i := 1) (oi := _) (v := ?vr2_1_1) rfl (by kernel_rfl) (by kernel_rfl) (by kernel_rfl) ?hqr2_1_1 (Or.inl ⟨by kernel_rfl, ?hyr2_1_1⟩) (by assumption) ?restr2_1_1
          case hqr2_1_1 => exact fun _ _ _ h => h
          case hyr2_1_1 => (intro w hSw; (try dsimp only at hSw); go_simp; try with_reducible rfl)
          try simp only [Act.put, List.getElem_toArray, List.getElem_cons_succ, List.getElem_cons_zero, List.setIfInBounds_toArray, List.set_cons_zero, List.set_cons_succ]
          refine wpAnyH_take (i := 2) (oi := _) (v := ?vr2_1_2) rfl (by kernel_rfl) (by kernel_rfl) (by kernel_rfl) ?hqr2_1_2 (Or.inl ⟨by kernel_rfl, ?hyr2_1_2⟩) (by assumption) ?restr2_1_2
          case hqr2_1_2 => exact fun _ _ _ h => h
          case hyr2_1_2 => (intro w hSw; (try dsimp only at hSw); go_simp; try with_reducible rfl)
          try simp only [Act.put, List.getElem_toArray, List.getElem_cons_succ, List.getElem_cons_zero, List.setIfInBounds_toArray, List.set_cons_zero, List.set_cons_succ]
          refine wpAnyH_take (i := 3) (oi := _) (v := ?vr2_1_3) rfl (by kernel_rfl) (by kernel_rfl) (by kernel_rfl) ?hqr2_1_3 (Or.inl ⟨by kernel_rfl, ?hyr2_1_3⟩) (by assumption) ?restr2_1_3
          case hqr2_1_3 => exact fun _ _ _ h => h
          case hyr2_1_3 => (intro w hSw; (try dsimp only at hSw); go_simp; try with_reducible rfl)
          try simp only [Act.put, List.getElem_toArray, List.getElem_cons_succ, List.getElem_cons_zero, List.setIfInBounds_toArray, List.set_cons_zero, List.set_cons_succ]
          refine wpAnyH_take (i := 4) (oi := _) (v := ?vr2_1_4) rfl (by kernel_rfl) (by kernel_rfl) (by kernel_rfl) ?hqr2_1_4 (Or.inl ⟨by kernel_rfl, ?hyr2_1_4⟩) (by assumption) ?restr2_1_4
          case hqr2_1_4 => exact fun _ _ _ h => h
          case hyr2_1_4 => (intro w hSw; (try dsimp only at hSw); go_simp; try with_reducible rfl)
          try simp only [Act.put, List.getElem_toArray, List.getElem_cons_succ, List.getElem_cons_zero, List.setIfInBounds_toArray, List.set_cons_zero, List.set_cons_succ]
          refine wpAnyH_take (i := 5) (oi := _) (v := ?vr2_1_5) rfl (by kernel_rfl) (by kernel_rfl) (by kernel_rfl) ?hqr2_1_5 (Or.inl ⟨by kernel_rfl, ?hyr2_1_5⟩) (by assumption) ?restr2_1_5
          case hqr2_1_5 => exact fun _ _ _ h => h
          case hyr2_1_5 => (intro w hSw; (try dsimp only at hSw); go_simp; try with_reducible rfl)
          try simp only [Act.put, List.getElem_toArray, List.getElem_cons_succ, List.getElem_cons_zero, List.setIfInBounds_toArray, List.set_cons_zero, List.set_cons_succ]
          refine wpAnyH_take (i := 6) (oi := _) (v := ?vr2_1_6) rfl (by kernel_rfl) (by kernel_rfl) (by kernel_rfl) ?hqr2_1_6 (Or.inl ⟨by kernel_rfl, ?hyr2_1_6⟩) (by assumption) ?restr2_1_6
          case hqr2_1_6 => exact fun _ _ _ h => h
          case hyr2_1_6 => (intro w hSw; (try dsimp only at hSw); go_simp; try with_reducible rfl)
          try simp only [Act.put, List.getElem_toArray, List.getElem_cons_succ, List.getElem_cons_zero, List.setIfInBounds_toArray, List.set_cons_zero, List.set_cons_succ]
          refine wpAnyH_ready (rs := [7]) (by kernel_rfl) (by simp) ?_
          refine AllReadyH.cons (o := _) rfl (fun K hK => ?_) AllReadyH.nil
          go_simp
          (go_at_call 58; refine (HLE.out _).mono ?_; rintro e w6 ⟨rfl, hb6⟩; have hB6 : Bel w5 w6 := Bel.then_ (Bel.refl w5).drew hb6)
          try (go_wp2_with fail)
          refine hK.out _ _ ?_ (fun hHr2_1 => ?_)
          · (try dsimp only); (first | assumption | exact hS _ (Bel.refl w5).drew | exact hS _ hB6 | exact hS _ (hB6.then_ hb7))
          clear hK K hHr2_0
          try simp only [Act.put, List.getElem_toArray, List.getElem_cons_succ, List.getElem_cons_zero, List.setIfInBounds_toArray, List.set_cons_zero, List.set_cons_succ]
          refine wpAnyH_take (i := 8) (oi := _) (v := ?vr2_1_8) rfl (by kernel_rfl) (by kernel_rfl) (by kernel_rfl) ?hqr2_1_8 (Or.inl ⟨by kernel_rfl, ?hyr2_1_8⟩) (by assumption) ?restr2_1_8
          case hqr2_1_8 => exact fun _ _ _ h => h
          case hyr2_1_8 => (intro w hSw; (try dsimp only at hSw); go_simp; try with_reducible rfl)
          try simp only [Act.put, List.getElem_toArray, List.getElem_cons_succ, List.getElem_cons_zero, List.setIfInBounds_toArray, List.set_cons_zero, List.set_cons_succ]
          refine wpAnyH_take (i := 9) (oi := _) (v := ?vr2_1_9) rfl (by kernel_rfl) (by kernel_rfl) (by kernel_rfl) ?hqr2_1_9 (Or.inl ⟨by kernel_rfl, ?hyr2_1_9⟩) (by assumption) ?restr2_1_9
          case hqr2_1_9 => exact fun _ _ _ h => h
          case hyr2_1_9 => (intro w hSw; (try dsimp only at hSw); go_simp; try with_reducible rfl)
          try simp only [Act.put, List.getElem_toArray, List.getElem_cons_succ, List.getElem_cons_zero, List.setIfInBounds_toArray, List.set_cons_zero, List.set_cons_succ]
          refine wpAnyH_take (i := 10) (oi := _) (v := ?vr2_1_10) rfl (by kernel_rfl) (by kernel_rfl) (by kernel_rfl) ?hqr2_1_10 (Or.inl ⟨by kernel_rfl, ?hyr2_1_10⟩) (by assumption) ?restr2_1_10
          case hqr2_1_10 => exact fun _ _ _ h => h
          case hyr2_1_10 => (intro w hSw; (try dsimp only at hSw); go_simp; try with_reducible rfl)
          try simp only [Act.put, List.getElem_toArray, List.getElem_cons_succ, List.getElem_cons_zero, List.setIfInBounds_toArray, List.set_cons_zero, List.set_cons_succ]
          refine wpAnyH_take (i := 11) (oi := _) (v := ?vr2_1_11) rfl (by kernel_rfl) (by kernel_rfl) (by kernel_rfl) ?hqr2_1_11 (Or.inl ⟨by kernel_rfl, ?hyr2_1_11⟩) (by assumption) ?restr2_1_11
          case hqr2_1_11 => exact fun _ _ _ h => h
          case hyr2_1_11 => (intro w hSw; (try dsimp only at hSw); go_simp; try with_reducible rfl)
          try simp only [Act.put, List.getElem_toArray, List.getElem_cons_succ, List.getElem_cons_zero, List.setIfInBounds_toArray, List.set_cons_zero, List.set_cons_succ]
          refine wpAnyH_take (i := 12) (oi := _) (v := ?vr2_1_12) rfl (by kernel_rfl) (by kernel_rfl) (by kernel_rfl) ?hqr2_1_12 (Or.inl ⟨by kernel_rfl, ?hyr2_1_12⟩) (by assumption) ?restr2_1_12
          case hqr2_1_12 => exact fun _ _ _ h => h
          case hyr2_1_12 => (intro w hSw; (try dsimp only at hSw); go_simp; try with_reducible rfl)
          try simp only [Act.put, List.getElem_toArray, List.getElem_cons_succ, List.getElem_cons_zero, List.setIfInBounds_toArray, List.set_cons_zero, List.set_cons_succ]
          refine wpAnyH_take (i := 13) (oi := _) (v := ?vr2_1_13) rfl (by kernel_rfl) (by kernel_rfl) (by kernel_rfl) ?hqr2_1_13 (Or.inl ⟨by kernel_rfl, ?hyr2_1_13⟩) (by assumption) ?restr2_1_13
          case hqr2_1_13 => exact fun _ _ _ h => h
          case hyr2_1_13 => (intro w hSw; (try dsimp only at hSw); go_simp; try with_reducible rfl)
          try simp only [Act.put, List.getElem_toArray, List.getElem_cons_succ, List.getElem_cons_zero, List.setIfInBounds_toArray, List.set_cons_zero, List.set_cons_succ]
          refine wpAnyH_ready (rs := [14]) (by kernel_rfl) (by simp) ?_
          refine AllReadyH.cons (o := _) rfl (fun K hK => ?_) AllReadyH.nil
          go_simp
          (go_at_call 58; refine (HLE.out _).mono ?_; rintro e w7 ⟨rfl, hb7⟩)
          try (go_wp2_with fail)
          refine hK.out _ _ ?_ (fun hHr2_2 => ?_)
          · (try dsimp only); (first | assumption | exact hS _ (Bel.refl w5).drew | exact hS _ hB6 | exact hS _ (hB6.then_ hb7))
          clear hK K hHr2_1
          try simp only [Act.put, List.getElem_toArray, List.getElem_cons_succ, List.getElem_cons_zero, List.setIfInBounds_toArray, List.set_cons_zero, List.set_cons_succ]
          refine wpAnyH_take (i := 15) (oi := _) (v := ?vr2_1_15) rfl (by kernel_rfl) (by kernel_rfl) (by kernel_rfl) ?hqr2_1_15 (Or.inl ⟨by kernel_rfl, ?hyr2_1_15⟩) (by assumption) ?restr2_1_15
          case hqr2_1_15 => exact fun _ _ _ h => h
          case hyr2_1_15 => (intro w hSw; (try dsimp only at hSw); go_simp; try with_reducible rfl)
          try simp only [Act.put, List.getElem_toArray, List.getElem_cons_succ, List.getElem_cons_zero, List.setIfInBounds_toArray, List.set_cons_zero, List.set_cons_succ]
          refine wpAnyH_take (i := 16) (oi := _) (v := ?vr2_1_16) rfl (by kernel_rfl) (by kernel_rfl) (by kernel_rfl) ?hqr2_1_16 (Or.inl ⟨by kernel_rfl, ?hyr2_1_16⟩) (by assumption) ?restr2_1_16
          case hqr2_1_16 => exact fun _ _ _ h => h
          case hyr2_1_16 => (intro w hSw; (try dsimp only at hSw); go_simp; try with_reducible rfl)
          try simp only [Act.put, List.getElem_toArray, List.getElem_cons_succ, List.getElem_cons_zero, List.setIfInBounds_toArray, List.set_cons_zero, List.set_cons_succ]
          refine wpAnyH_take (i := 17) (oi := _) (v := ?vr2_1_17) rfl (by kernel_rfl) (by kernel_rfl) (by kernel_rfl) ?hqr2_1_17 (Or.inl ⟨by kernel_rfl, ?hyr2_1_17⟩) (by assumption) ?restr2_1_17
          case hqr2_1_17 => exact fun _ _ _ h => h
          case hyr2_1_17 => (intro w hSw; (try dsimp only at hSw); go_simp; try with_reducible rfl)
          try simp only [Act.put, List.getElem_toArray, List.getElem_cons_succ, List.getElem_cons_zero, List.setIfInBounds_toArray, List.set_cons_zero, List.set_cons_succ]
          refine wpAnyH_take (i := 18) (oi := _) (v := ?vr2_1_18) rfl (by kernel_rfl) (by kernel_rfl) (by kernel_rfl) ?hqr2_1_18 (Or.inl ⟨by kernel_rfl, ?hyr2_1_18⟩) (by assumption) ?restr2_1_18
          case hqr2_1_18 => exact fun _ _ _ h => h
          case hyr2_1_18 => (intro w hSw; (try dsimp only at hSw); go_simp; try with_reducible rfl)
          try simp only [Act.put, List.getElem_toArray, List.getElem_cons_succ, List.getElem_cons_zero, List.setIfInBounds_toArray, List.set_cons_zero, List.set_cons_succ]
          refine wpAnyH_take (i := 19) (oi := _) (v := ?vr2_1_19) rfl (by kernel_rfl) (by kernel_rfl) (by kernel_rfl) ?hqr2_1_19 (Or.inl ⟨by kernel_rfl, ?hyr2_1_19⟩) (by assumption) ?restr2_1_19
          case hqr2_1_19 => exact fun _ _ _ h => h
          case hyr2_1_19 => (intro w hSw; (try dsimp only at hSw); go_simp; try with_reducible rfl)
          try simp only [Act.put, List.getElem_toArray, List.getElem_cons_succ, List.getElem_cons_zero, List.setIfInBounds_toArray, List.set_cons_zero, List.set_cons_succ]
          refine wpAnyH_take (i := 20) (oi := _) (v := ?vr2_1_20) rfl (by kernel_rfl) (by kernel_rfl) (by kernel_rfl) ?hqr2_1_20 (Or.inl ⟨by kernel_rfl, ?hyr2_1_20⟩) (by assumption) ?restr2_1_20
          case hqr2_1_20 => exact fun _ _ _ h => h
          case hyr2_1_20 => (intro w hSw; (try dsimp only at hSw); go_simp; try with_reducible rfl)
          try simp only [Act.put, List.getElem_toArray, List.getElem_cons_succ, List.getElem_cons_zero, List.setIfInBounds_toArray, List.set_cons_zero, List.set_cons_succ]
          refine wpAnyH_done (by kernel_rfl) ?_ _
          refine NoPanic.normal ?_
          go_wp2
          go_ret
          exact ⟨by rw [hR2]; rfl, hB5.then_ (by assumption : _ ∧ _ ∧ _ ∧ Bel w5 _).2.2.2⟩
        · have hub : decide (127 < n) = false := by simp; omega
          have hR2 : R = 0 := by rw [HR1.out, if_pos (by omega)]
          refine wp_region_noPanic ?_
          refine wp_region_held_drew (S := (fun V : World => V.cell? ⟨w.heap.size, 2, none⟩ = some (.int .i64 1) ∧ V.cell? ⟨w.heap.size + 1, 1, none⟩ = some (.int .i64 n) ∧ V.cell? ⟨w.heap.size + 1, 2, none⟩ = some (.int .u64 u) ∧ Bel w5 V)) (by kernel_rfl) ?_ (fun hHr3_0 => ?_)
          · (try dsimp only); (first | assumption | exact hS _ (Bel.refl w5).drew | exact hS _ hB6 | exact hS _ (hB6.then_ hb7))
          refine wpAnyH_take (i := 0) (oi := _) (v := ?vr3_1_0) rfl (by kernel_rfl) (by kernel_rfl) (by kernel_rfl) ?hqr3_1_0 (Or.inl ⟨by kernel_rfl, ?hyr3_1_0⟩) (by assumption) ?restr3_1_0
          case hqr3_1_0 => exact fun _ _ _ h => h
          case hyr3_1_0 => (intro w hSw; (try dsimp only at hSw); go_simp; try with_reducible rfl)
          try simp only [Act.put, List.getElem_toArray, List.getElem_cons_succ, List.getElem_cons_zero, List.setIfInBounds_toArray, List.set_cons_zero, List.set_cons_succ]
          refine wpAnyH_take (i := 1) (oi := _) (v := ?vr3_1_1) rfl (by kernel_rfl) (by kernel_rfl) (by kernel_rfl) ?hqr3_1_1 (Or.inl ⟨by kernel_rfl, ?hyr3_1_1⟩) (by assumption) ?restr3_1_1
          case hqr3_1_1 => exact fun _ _ _ h => h
          case hyr3_1_1 => (intro w hSw; (try dsimp only at hSw); go_simp; try with_reducible rfl)
          try simp only [Act.put, List.getElem_toArray, List.getElem_cons_succ, List.getElem_cons_zero, List.setIfInBounds_toArray, List.set_cons_zero, List.set_cons_succ]
          refine wpAnyH_take (i := 2) (oi := _) (v := ?vr3_1_2) rfl (by kernel_rfl) (by kernel_rfl) (by kernel_rfl) ?hqr3_1_2 (Or.inl ⟨by kernel_rfl, ?hyr3_1_2⟩) (by assumption) ?restr3_1_2
          case hqr3_1_2 => exact fun _ _ _ h => h
          case hyr3_1_2 => (intro w hSw; (try dsimp only at hSw); go_simp; try with_reducible rfl)
          try simp only [Act.put, List.getElem_toArray, List.getElem_cons_succ, List.getElem_cons_zero, List.setIfInBounds_toArray, List.set_cons_zero, List.set_cons_succ]
          refine wpAnyH_take (i := 3) (oi := _) (v := ?vr3_1_3) rfl (by kernel_rfl) (by kernel_rfl) (by kernel_rfl) ?hqr3_1_3 (Or.inl ⟨by kernel_rfl, ?hyr3_1_3⟩) (by assumption) ?restr3_1_3
          case hqr3_1_3 => exact fun _ _ _ h => h
          case hyr3_1_3 => (intro w hSw; (try dsimp only at hSw); go_simp; try with_reducible rfl)
          try simp only [Act.put, List.getElem_toArray, List.getElem_cons_succ, List.getElem_cons_zero, List.setIfInBounds_toArray, List.set_cons_zero, List.set_cons_succ]
          refine wpAnyH_take (i := 4) (oi := _) (v := ?vr3_1_4) rfl (by kernel_rfl) (by kernel_rfl) (by kernel_rfl) ?hqr3_1_4 (Or.inl ⟨by kernel_rfl, ?hyr3_1_4⟩) (by assumption) ?restr3_1_4
          case hqr3_1_4 => exact fun _ _ _ h => h
          case hyr3_1_4 => (intro w hSw; (try dsimp only at hSw); go_simp; try with_reducible rfl)
          try simp only [Act.put, List.getElem_toArray, List.getElem_cons_succ, List.getElem_cons_zero, List.setIfInBounds_toArray, List.set_cons_zero, List.set_cons_succ]
          refine wpAnyH_take (i := 5) (oi := _) (v := ?vr3_1_5) rfl (by kernel_rfl) (by kernel_rfl) (by kernel_rfl) ?hqr3_1_5 (Or.inl ⟨by kernel_rfl, ?hyr3_1_5⟩) (by assumption) ?restr3_1_5
          case hqr3_1_5 => exact fun _ _ _ h => h
          case hyr3_1_5 => (intro w hSw; (try dsimp only at hSw); go_simp; try with_reducible rfl)
          try simp only [Act.put, List.getElem_toArray, List.getElem_cons_succ, List.getElem_cons_zero, List.setIfInBounds_toArray, List.set_cons_zero, List.set_cons_succ]
          refine wpAnyH_take (i := 6) (oi := _) (v := ?vr3_1_6) rfl (by kernel_rfl) (by kernel_rfl) (by kernel_rfl) ?hqr3_1_6 (Or.inl ⟨by kernel_rfl, ?hyr3_1_6⟩) (by assumption) ?restr3_1_6
          case hqr3_1_6 => exact fun _ _ _ h => h
          case hyr3_1_6 => (intro w hSw; (try dsimp only at hSw); go_simp; try with_reducible rfl)
          try simp only [Act.put, List.getElem_toArray, List.getElem_cons_succ, List.getElem_cons_zero, List.setIfInBounds_toArray, List.set_cons_zero, List.set_cons_succ]
          refine wpAnyH_ready (rs := [7]) (by kernel_rfl) (by simp) ?_
          refine AllReadyH.cons (o := _) rfl (fun K hK => ?_) AllReadyH.nil
          go_simp
          (go_at_call 58; refine (HLE.out _).mono ?_; rintro e w6 ⟨rfl, hb6⟩; have hB6 : Bel w5 w6 := Bel.then_ (Bel.refl w5).drew hb6)
          try (go_wp2_with fail)
          refine hK.out _ _ ?_ (fun hHr3_1 => ?_)
          · (try dsimp only); (first | assumption | exact hS _ (Bel.refl w5).drew | exact hS _ hB6 | exact hS _ (hB6.then_ hb7))
          clear hK K hHr3_0
          try simp only [Act.put, List.getElem_toArray, List.getElem_cons_succ, List.getElem_cons_zero, List.setIfInBounds_toArray, List.set_cons_zero, List.set_cons_succ]
          refine wpAnyH_take (i := 8) (oi := _) (v := ?vr3_1_8) rfl (by kernel_rfl) (by kernel_rfl) (by kernel_rfl) ?hqr3_1_8 (Or.inl ⟨by kernel_rfl, ?hyr3_1_8⟩) (by assumption) ?restr3_1_8
          case hqr3_1_8 => exact fun _ _ _ h => h
          case hyr3_1_8 => (intro w hSw; (try dsimp only at hSw); go_simp; try with_reducible rfl)
          try simp only [Act.put, List.getElem_toArray, List.getElem_cons_succ, List.getElem_cons_zero, List.setIfInBounds_toArray, List.set_cons_zero, List.set_cons_succ]
          refine wpAnyH_take (i := 9) (oi := _) (v := ?vr3_1_9) rfl (by kernel_rfl) (by kernel_rfl) (by kernel_rfl) ?hqr3_1_9 (Or.inl ⟨by kernel_rfl, ?hyr3_1_9⟩) (by assumption) ?restr3_1_9
          case hqr3_1_9 => exact fun _ _ _ h => h
          case hyr3_1_9 => (intro w hSw; (try dsimp only at hSw); go_simp; try with_reducible rfl)
          try simp only [Act.put, List.getElem_toArray, List.getElem_cons_succ, List.getElem_cons_zero, List.setIfInBounds_toArray, List.set_cons_zero, List.set_cons_succ]
          refine wpAnyH_take (i := 10) (oi := _) (v := ?vr3_1_10) rfl (by kernel_rfl) (by kernel_rfl) (by kernel_rfl) ?hqr3_1_10 (Or.inl ⟨by kernel_rfl, ?hyr3_1_10⟩) (by assumption) ?restr3_1_10
          case hqr3_1_10 => exact fun _ _ _ h => h
          case hyr3_1_10 => (intro w hSw; (try dsimp only at hSw); go_simp; try with_reducible rfl)
          try simp only [Act.put, List.getElem_toArray, List.getElem_cons_succ, List.getElem_cons_zero, List.setIfInBounds_toArray, List.set_cons_zero, List.set_cons_succ]
          refine wpAnyH_take (i := 11) (oi := _) (v := ?vr3_1_11) rfl (by kernel_rfl) (by kernel_rfl) (by kernel_rfl) ?hqr3_1_11 (Or.inl ⟨by kernel_rfl, ?hyr3_1_11⟩) (by assumption) ?restr3_1_11
          case hqr3_1_11 => exact fun _ _ _ h => h
          case hyr3_1_11 => (intro w hSw; (try dsimp only at hSw); go_simp; try with_reducible rfl)
          try simp only [Act.put, List.getElem_toArray, List.getElem_cons_succ, List.getElem_cons_zero, List.setIfInBounds_toArray, List.set_cons_zero, List.set_cons_succ]
          refine wpAnyH_take (i := 12) (oi := _) (v := ?vr3_1_12) rfl (by kernel_rfl) (by kernel_rfl) (by kernel_rfl) ?hqr3_1_12 (Or.inl ⟨by kernel_rfl, ?hyr3_1_12⟩) (by assumption) ?restr3_1_12
          case hqr3_1_12 => exact fun _ _ _ h => h
          case hyr3_1_12 => (intro w hSw; (try dsimp only at hSw); go_simp; try with_reducible rfl)
          try simp only [Act.put, List.getElem_toArray, List.getElem_cons_succ, List.getElem_cons_zero, List.setIfInBounds_toArray, List.set_cons_zero, List.set_cons_succ]
          refine wpAnyH_take (i := 13) (oi := _) (v := ?vr3_1_13) rfl (by kernel_rfl) (by kernel_rfl) (by kernel_rfl) ?hqr3_1_13 (Or.inl ⟨by kernel_rfl, ?hyr3_1_13⟩) (by assumption) ?restr3_1_13
          case hqr3_1_13 => exact fun _ _ _ h => h
          case hyr3_1_13 => (intro w hSw; (try dsimp only at hSw); go_simp; try with_reducible rfl)
          try simp only [Act.put, List.getElem_toArray, List.getElem_cons_succ, List.getElem_cons_zero, List.setIfInBounds_toArray, List.set_cons_zero, List.set_cons_succ]
          refine wpAnyH_ready (rs := [14]) (by kernel_rfl) (by simp) ?_
          refine AllReadyH.cons (o := _) rfl (fun K hK => ?_) AllReadyH.nil
          go_simp
          (go_at_call 58; refine (HLE.out _).mono ?_; rintro e w7 ⟨rfl, hb7⟩)
          try (go_wp2_with fail)
          refine hK.out _ _ ?_ (fun hHr3_2 => ?_)
          · (try dsimp only); (first | assumption | exact hS _ (Bel.refl w5).drew | exact hS _ hB6 | exact hS _ (hB6.then_ hb7))
          clear hK K hHr3_1
          try simp only [Act.put, List.getElem_toArray, List.getElem_cons_succ, List.getElem_cons_zero, List.setIfInBounds_toArray, List.set_cons_zero, List.set_cons_succ]
          refine wpAnyH_take (i := 15) (oi := _) (v := ?vr3_1_15) rfl (by kernel_rfl) (by kernel_rfl) (by kernel_rfl) ?hqr3_1_15 (Or.inl ⟨by kernel_rfl, ?hyr3_1_15⟩) (by assumption) ?restr3_1_15
          case hqr3_1_15 => exact fun _ _ _ h => h
          case hyr3_1_15 => (intro w hSw; (try dsimp only at hSw); go_simp; try with_reducible rfl)
          try simp only [Act.put, List.getElem_toArray, List.getElem_cons_succ, List.getElem_cons_zero, List.setIfInBounds_toArray, List.set_cons_zero, List.set_cons_succ]
          refine wpAnyH_take (i := 16) (oi := _) (v := ?vr3_1_16) rfl (by kernel_rfl) (by kernel_rfl) (by kernel_rfl) ?hqr3_1_16 (Or.inl ⟨by kernel_rfl, ?hyr3_1_16⟩) (by assumption) ?restr3_1_16
          case hqr3_1_16 => exact fun _ _ _ h => h
          case hyr3_1_16 => (intro w hSw; (try dsimp only at hSw); go_simp; try with_reducible rfl)
          try simp only [Act.put, List.getElem_toArray, List.getElem_cons_succ, List.getElem_cons_zero, List.setIfInBounds_toArray, List.set_cons_zero, List.set_cons_succ]
          refine wpAnyH_take (i := 17) (oi := _) (v := ?vr3_1_17) rfl (by kernel_rfl) (by kernel_rfl) (by kernel_rfl) ?hqr3_1_17 (Or.inl ⟨by kernel_rfl, ?hyr3_1_17⟩) (by assumption) ?restr3_1_17
          case hqr3_1_17 => exact fun _ _ _ h => h
          case hyr3_1_17 => (intro w hSw; (try dsimp only at hSw); go_simp; try with_reducible rfl)
          try simp only [Act.put, List.getElem_toArray, List.getElem_cons_succ, List.getElem_cons_zero, List.setIfInBounds_toArray, List.set_cons_zero, List.set_cons_succ]
          refine wpAnyH_take (i := 18) (oi := _) (v := ?vr3_1_18) rfl (by kernel_rfl) (by kernel_rfl) (by kernel_rfl) ?hqr3_1_18 (Or.inl ⟨by kernel_rfl, ?hyr3_1_18⟩) (by assumption) ?restr3_1_18
          case hqr3_1_18 => exact fun _ _ _ h => h
          case hyr3_1_18 => (intro w hSw; (try dsimp only at hSw); go_simp; try with_reducible rfl)
          try simp only [Act.put, List.getElem_toArray, List.getElem_cons_succ, List.getElem_cons_zero, List.setIfInBounds_toArray, List.set_cons_zero, List.set_cons_succ]
          refine wpAnyH_take (i := 19) (oi := _) (v := ?vr3_1_19) rfl (by kernel_rfl) (by kernel_rfl) (by kernel_rfl) ?hqr3_1_19 (Or.inl ⟨by kernel_rfl, ?hyr3_1_19⟩) (by assumption) ?restr3_1_19
          case hqr3_1_19 => exact fun _ _ _ h => h
          case hyr3_1_19 => (intro w hSw; (try dsimp only at hSw); go_simp; try with_reducible rfl)
          try simp only [Act.put, List.getElem_toArray, List.getElem_cons_succ, List.getElem_cons_zero, List.setIfInBounds_toArray, List.set_cons_zero, List.set_cons_succ]
          refine wpAnyH_take (i := 20) (oi := _) (v := ?vr3_1_20) rfl (by kernel_rfl) (by kernel_rfl) (by kernel_rfl) ?hqr3_1_20 (Or.inl ⟨by kernel_rfl, ?hyr3_1_20⟩) (by assumption) ?restr3_1_20
          case hqr3_1_20 => exact fun _ _ _ h => h
          case hyr3_1_20 => (intro w hSw; (try dsimp only at hSw); go_simp; try with_reducible rfl)
          try simp only [Act.put, List.getElem_toArray, List.getElem_cons_succ, List.getElem_cons_zero, List.setIfInBounds_toArray, List.set_cons_zero, List.set_cons_succ]
          refine wpAnyH_done (by kernel_rfl) ?_ _
          refine NoPanic.normal ?_
          have hB7 := (by assumption : _ ∧ _ ∧ _ ∧ Bel w5 _).2.2.2
          go_wp2
          refine wp_region_noPanic ?_
          refine wp_region_held_drew (S := (fun V : World => Bel w5 V)) (by kernel_rfl) ?_ (fun hHr4_0 => ?_)
          · (try dsimp only); (first | assumption | exact hB7.drew)
          refine wpAnyH_take (i := 0) (oi := _) (v := ?vr4_1_0) rfl (by kernel_rfl) (by kernel_rfl) (by kernel_rfl) ?hqr4_1_0 (Or.inl ⟨by kernel_rfl, ?hyr4_1_0⟩) (by assumption) ?restr4_1_0
          case hqr4_1_0 => exact fun _ _ _ h => h
          case hyr4_1_0 => (intro w hSw; (try dsimp only at hSw); go_simp; try with_reducible rfl)
          try simp only [Act.put, List.getElem_toArray, List.getElem_cons_succ, List.getElem_cons_zero, List.setIfInBounds_toArray, List.set_cons_zero, List.set_cons_succ]
          refine wpAnyH_take (i := 1) (oi := _) (v := ?vr4_1_1) rfl (by kernel_rfl) (by kernel_rfl) (by kernel_rfl) ?hqr4_1_1 (Or.inl ⟨by kernel_rfl, ?hyr4_1_1⟩) (by assumption) ?restr4_1_1
          case hqr4_1_1 => exact fun _ _ _ h => h
          case hyr4_1_1 => (intro w hSw; (try dsimp only at hSw); go_simp; try with_reducible rfl)
          try simp only [Act.put, List.getElem_toArray, List.getElem_cons_succ, List.getElem_cons_zero, List.setIfInBounds_toArray, List.set_cons_zero, List.set_cons_succ]
          refine wpAnyH_take (i := 2) (oi := _) (v := ?vr4_1_2) rfl (by kernel_rfl) (by kernel_rfl) (by kernel_rfl) ?hqr4_1_2 (Or.inl ⟨by kernel_rfl, ?hyr4_1_2⟩) (by assumption) ?restr4_1_2
          case hqr4_1_2 => exact fun _ _ _ h => h
          case hyr4_1_2 => (intro w hSw; (try dsimp only at hSw); go_simp; try with_reducible rfl)
          try simp only [Act.put, List.getElem_toArray, List.getElem_cons_succ, List.getElem_cons_zero, List.setIfInBounds_toArray, List.set_cons_zero, List.set_cons_succ]
          refine wpAnyH_take (i := 3) (oi := _) (v := undef) rfl (by kernel_rfl) (by kernel_rfl) (by kernel_rfl) (fun _ _ _ h => h) (Or.inr ⟨by kernel_rfl, rfl⟩) (by assumption) ?restr4_1_3
          try simp only [Act.put, List.getElem_toArray, List.getElem_cons_succ, List.getElem_cons_zero, List.setIfInBounds_toArray, List.set_cons_zero, List.set_cons_succ]
          refine wpAnyH_take (i := 4) (oi := _) (v := undef) rfl (by kernel_rfl) (by kernel_rfl) (by kernel_rfl) (fun _ _ _ h => h) (Or.inr ⟨by kernel_rfl, rfl⟩) (by assumption) ?restr4_1_4
          try simp only [Act.put, List.getElem_toArray, List.getElem_cons_succ, List.getElem_cons_zero, List.setIfInBounds_toArray, List.set_cons_zero, List.set_cons_succ]
          refine wpAnyH_take (i := 5) (oi := _) (v := undef) rfl (by kernel_rfl) (by kernel_rfl) (by kernel_rfl) (fun _ _ _ h => h) (Or.inr ⟨by kernel_rfl, rfl⟩) (by assumption) ?restr4_1_5
          try simp only [Act.put, List.getElem_toArray, List.getElem_cons_succ, List.getElem_cons_zero, List.setIfInBounds_toArray, List.set_cons_zero, List.set_cons_succ]
          refine wpAnyH_take (i := 6) (oi := _) (v := undef) rfl (by kernel_rfl) (by kernel_rfl) (by kernel_rfl) (fun _ _ _ h => h) (Or.inr ⟨by kernel_rfl, rfl⟩) (by assumption) ?restr4_1_6
          try simp only [Act.put, List.getElem_toArray, List.getElem_cons_succ, List.getElem_cons_zero, List.setIfInBounds_toArray, List.set_cons_zero, List.set_cons_succ]
          refine wpAnyH_take (i := 7) (oi := _) (v := undef) rfl (by kernel_rfl) (by kernel_rfl) (by kernel_rfl) (fun _ _ _ h => h) (Or.inr ⟨by kernel_rfl, rfl⟩) (by assumption) ?restr4_1_7
          try simp only [Act.put, List.getElem_toArray, List.getElem_cons_succ, List.getElem_cons_zero, List.setIfInBounds_toArray, List.set_cons_zero, List.set_cons_succ]
          refine wpAnyH_take (i := 8) (oi := _) (v := undef) rfl (by kernel_rfl) (by kernel_rfl) (by kernel_rfl) (fun _ _ _ h => h) (Or.inr ⟨by kernel_rfl, rfl⟩) (by assumption) ?restr4_1_8
          try simp only [Act.put, List.getElem_toArray, List.getElem_cons_succ, List.getElem_cons_zero, List.setIfInBounds_toArray, List.set_cons_zero, List.set_cons_succ]
          refine wpAnyH_take (i := 9) (oi := _) (v := ?vr4_1_9) rfl (by kernel_rfl) (by kernel_rfl) (by kernel_rfl) ?hqr4_1_9 (Or.inl ⟨by kernel_rfl, ?hyr4_1_9⟩) (by assumption) ?restr4_1_9
          case hqr4_1_9 => exact fun _ _ _ h => h
          case hyr4_1_9 => (intro w hSw; (try dsimp only at hSw); go_simp; try with_reducible rfl)
          try simp only [Act.put, List.getElem_toArray, List.getElem_cons_succ, List.getElem_cons_zero, List.setIfInBounds_toArray, List.set_cons_zero, List.set_cons_succ]
          refine wpAnyH_take (i := 10) (oi := _) (v := ?vr4_1_10) rfl (by kernel_rfl) (by kernel_rfl) (by kernel_rfl) ?hqr4_1_10 (Or.inl ⟨by kernel_rfl, ?hyr4_1_10⟩) (by assumption) ?restr4_1_10
          case hqr4_1_10 => exact fun _ _ _ h => h
          case hyr4_1_10 => (intro w hSw; (try dsimp only at hSw); go_simp; try with_reducible rfl)
          try simp only [Act.put, List.getElem_toArray, List.getElem_cons_succ, List.getElem_cons_zero, List.setIfInBounds_toArray, List.set_cons_zero, List.set_cons_succ]
          refine wpAnyH_done (by kernel_rfl) ?_ _
          refine NoPanic.normal ?_
          go_wp2
          go_ret
          exact ⟨by rw [hR2]; rfl, hB5.then_ hB7.drew⟩
    · simp only [leastI] at HLE HR1
      have v1 : IntKind.i64.wrap (-32767) = -32767 := by decide
      have v2 : IntKind.i64.wrap 32767 = 32767 := by decide
      have v3 : IntKind.i64.wrap (-32768 + 1) = -32767 := by decide
      have v4 : IntKind.i64.wrap (-(-32767)) = 32767 := by decide
      go_enter Tryz.func24, Tryz.ntmps24
      go_wp2_with (first | (go_at_call 56; refine (HCO.out _).mono ?_; rintro e w4 ⟨rfl, hb4⟩; obtain ⟨⟨a0, a1, a2, a3, c0, c1, c2, c3⟩, hB4⟩ := HCL.out _ hb4) | (go_at_call 57; refine (HCH.out _).mono ?_; rintro e w5 ⟨rfl, hb5⟩; obtain ⟨⟨d0, d1, d2, d3, e0, e1, e2, e3⟩, hB5⟩ := HCL.out _ (hb4.then_ hb5)))
      have hS : ∀ V, Bel w5 V → (V.cell? ⟨w.heap.size, 2, none⟩ = some (.int .i64 2) ∧ V.cell? ⟨w.heap.size + 1, 1, none⟩ = some (.int .i64 n) ∧ V.cell? ⟨w.heap.size + 1, 2, none⟩ = some (.int .u64 u) ∧ Bel w5 V) := fun V h => ⟨h.c d2, h.c e1, h.c e2, h⟩
      by_cases hl : n < -32768
      · have hR2 : R = 133 := by rw [HR1.out, if_neg (by omega)]
        refine wp_region_noPanic ?_
        refine wp_region_held_drew (S := (fun V : World => V.cell? ⟨w.heap.size, 2, none⟩ = some (.int .i64 2) ∧ V.cell? ⟨w.heap.size + 1, 1, none⟩ = some (.int .i64 n) ∧ V.cell? ⟨w.heap.size + 1, 2, none⟩ = some (.int .u64 u) ∧ Bel w5 V)) (by kernel_rfl) ?_ (fun hHr5_0 => ?_)
        · (try dsimp only); (first | assumption | exact hS _ (Bel.refl w5).drew | exact hS _ hB6 | exact hS _ (hB6.then_ hb7))
        refine wpAnyH_take (i := 0) (oi := _) (v := ?vr5_1_0) rfl (by kernel_rfl) (by kernel_rfl) (by kernel_rfl) ?hqr5_1_0 (Or.inl ⟨by kernel_rfl, ?hyr5_1_0⟩) (by assumption) ?restr5_1_0
        case hqr5_1_0 => exact fun _ _ _ h => h
        case hyr5_1_0 => (intro w hSw; (try dsimp only at hSw); go_simp; try with_reducible rfl)
        try simp only [Act.put, List.getElem_toArray, List.getElem_cons_succ, List.getElem_cons_zero, List.setIfInBounds_toArray, List.set_cons_zero, List.set_cons_succ]
        refine wpAnyH_take (i := 1) (oi := _) (v := ?vr5_1_1) rfl (by kernel_rfl) (by kernel_rfl) (by kernel_rfl) ?hqr5_1_1 (Or.inl ⟨by kernel_rfl, ?hyr5_1_1⟩) (by assumption) ?restr5_1_1
        case hqr5_1_1 => exact fun _ _ _ h => h
        case hyr5_1_1 => (intro w hSw; (try dsimp only at hSw); go_simp; try with_reducible rfl)
        try simp only [Act.put, List.getElem_toArray, List.getElem_cons_succ, List.getElem_cons_zero, List.setIfInBounds_toArray, List.set_cons_zero, List.set_cons_succ]
        refine wpAnyH_take (i := 2) (oi := _) (v := ?vr5_1_2) rfl (by kernel_rfl) (by kernel_rfl) (by kernel_rfl) ?hqr5_1_2 (Or.inl ⟨by kernel_rfl, ?hyr5_1_2⟩) (by assumption) ?restr5_1_2
        case hqr5_1_2 => exact fun _ _ _ h => h
        case hyr5_1_2 => (intro w hSw; (try dsimp only at hSw); go_simp; try with_reducible rfl)
        try simp only [Act.put, List.getElem_toArray, List.getElem_cons_succ, List.getElem_cons_zero, List.setIfInBounds_toArray, List.set_cons_zero, List.set_cons_succ]
        refine wpAnyH_take (i := 3) (oi := _) (v := ?vr5_1_3) rfl (by kernel_rfl) (by kernel_rfl) (by kernel_rfl) ?hqr5_1_3 (Or.inl ⟨by kernel_rfl, ?hyr5_1_3⟩) (by assumption) ?restr5_1_3
        case hqr5_1_3 => exact fun _ _ _ h => h
        case hyr5_1_3 => (intro w hSw; (try dsimp only at hSw); go_simp; try with_reducible rfl)
        try simp only [Act.put, List.getElem_toArray, List.getElem_cons_succ, List.getElem_cons_zero, List.setIfInBounds_toArray, List.set_cons_zero, List.set_cons_succ]
        refine wpAnyH_take (i := 4) (oi := _) (v := ?vr5_1_4) rfl (by kernel_rfl) (by kernel_rfl) (by kernel_rfl) ?hqr5_1_4 (Or.inl ⟨by kernel_rfl, ?hyr5_1_4⟩) (by assumption) ?restr5_1_4
        case hqr5_1_4 => exact fun _ _ _ h => h
        case hyr5_1_4 => (intro w hSw; (try dsimp only at hSw); go_simp; try with_reducible rfl)
        try simp only [Act.put, List.getElem_toArray, List.getElem_cons_succ, List.getElem_cons_zero, List.setIfInBounds_toArray, List.set_cons_zero, List.set_cons_succ]
        refine wpAnyH_take (i := 5) (oi := _) (v := ?vr5_1_5) rfl (by kernel_rfl) (by kernel_rfl) (by kernel_rfl) ?hqr5_1_5 (Or.inl ⟨by kernel_rfl, ?hyr5_1_5⟩) (by assumption) ?restr5_1_5
        case hqr5_1_5 => exact fun _ _ _ h => h
        case hyr5_1_5 => (intro w hSw; (try dsimp only at hSw); go_simp; try with_reducible rfl)
        try simp only [Act.put, List.getElem_toArray, List.getElem_cons_succ, List.getElem_cons_zero, List.setIfInBounds_toArray, List.set_cons_zero, List.set_cons_succ]
        refine wpAnyH_take (i := 6) (oi := _) (v := ?vr5_1_6) rfl (by kernel_rfl) (by kernel_rfl) (by kernel_rfl) ?hqr5_1_6 (Or.inl ⟨by kernel_rfl, ?hyr5_1_6⟩) (by assumption) ?restr5_1_6
        case hqr5_1_6 => exact fun _ _ _ h => h
        case hyr5_1_6 => (intro w hSw; (try dsimp only at hSw); go_simp; try with_reducible rfl)
        try simp only [Act.put, List.getElem_toArray, List.getElem_cons_succ, List.getElem_cons_zero, List.setIfInBounds_toArray, List.set_cons_zero, List.set_cons_succ]
        refine wpAnyH_ready (rs := [7]) (by kernel_rfl) (by simp) ?_
        refine AllReadyH.cons (o := _) rfl (fun K hK => ?_) AllReadyH.nil
        go_simp
        (go_at_call 58; refine (HLE.out _).mono ?_; rintro e w6 ⟨rfl, hb6⟩; have hB6 : Bel w5 w6 := Bel.then_ (Bel.refl w5).drew hb6)
        try (go_wp2_with fail)
        refine hK.out _ _ ?_ (fun hHr5_1 => ?_)
        · (try dsimp only); (first | assumption | exact hS _ (Bel.refl w5).drew | exact hS _ hB6 | exact hS _ (hB6.then_ hb7))
        clear hK K hHr5_0
        try simp only [Act.put, List.getElem_toArray, List.getElem_cons_succ, List.getElem_cons_zero, List.setIfInBounds_toArray, List.set_cons_zero, List.set_cons_succ]
        refine wpAnyH_take (i := 8) (oi := _) (v := ?vr5_1_8) rfl (by kernel_rfl) (by kernel_rfl) (by kernel_rfl) ?hqr5_1_8 (Or.inl ⟨by kernel_rfl, ?hyr5_1_8⟩) (by assumption) ?restr5_1_8
        case hqr5_1_8 => exact fun _ _ _ h => h
        case hyr5_1_8 => (intro w hSw; (try dsimp only at hSw); go_simp; try with_reducible rfl)
        try simp only [Act.put, List.getElem_toArray, List.getElem_cons_succ, List.getElem_cons_zero, List.setIfInBounds_toArray, List.set_cons_zero, List.set_cons_succ]
        refine wpAnyH_take (i := 9) (oi := _) (v := ?vr5_1_9) rfl (by kernel_rfl) (by kernel_rfl) (by kernel_rfl) ?hqr5_1_9 (Or.inl ⟨by kernel_rfl, ?hyr5_1_9⟩) (by assumption) ?restr5_1_9
        case hqr5_1_9 => exact fun _ _ _ h => h
        case hyr5_1_9 => (intro w hSw; (try dsimp only at hSw); go_simp; try with_reducible rfl)
        try simp only [Act.put, List.getElem_toArray, List.getElem_cons_succ, List.getElem_cons_zero, List.setIfInBounds_toArray, List.set_cons_zero, List.set_cons_succ]
        refine wpAnyH_take (i := 10) (oi := _) (v := undef) rfl (by kernel_rfl) (by kernel_rfl) (by kernel_rfl) (fun _ _ _ h => h) (Or.inr ⟨by kernel_rfl, rfl⟩) (by assumption) ?restr5_1_10
        try simp only [Act.put, List.getElem_toArray, List.getElem_cons_succ, List.getElem_cons_zero, List.setIfInBounds_toArray, List.set_cons_zero, List.set_cons_succ]
        refine wpAnyH_take (i := 11) (oi := _) (v := undef) rfl (by kernel_rfl) (by kernel_rfl) (by kernel_rfl) (fun _ _ _ h => h) (Or.inr ⟨by kernel_rfl, rfl⟩) (by assumption) ?restr5_1_11
        try simp only [Act.put, List.getElem_toArray, List.getElem_cons_succ, List.getElem_cons_zero, List.setIfInBounds_toArray, List.set_cons_zero, List.set_cons_succ]
        refine wpAnyH_take (i := 12) (oi := _) (v := undef) rfl (by kernel_rfl) (by kernel_rfl) (by kernel_rfl) (fun _ _ _ h => h) (Or.inr ⟨by kernel_rfl, rfl⟩) (by assumption) ?restr5_1_12
        try simp only [Act.put, List.getElem_toArray, List.getElem_cons_succ, List.getElem_cons_zero, List.setIfInBounds_toArray, List.set_cons_zero, List.set_cons_succ]
        refine wpAnyH_take (i := 13) (oi := _) (v := undef) rfl (by kernel_rfl) (by kernel_rfl) (by kernel_rfl) (fun _ _ _ h => h) (Or.inr ⟨by kernel_rfl, rfl⟩) (by assumption) ?restr5_1_13
        try simp only [Act.put, List.getElem_toArray, List.getElem_cons_succ, List.getElem_cons_zero, List.setIfInBounds_toArray, List.set_cons_zero, List.set_cons_succ]
        refine wpAnyH_take (i := 14) (oi := _) (v := undef) rfl (by kernel_rfl) (by kernel_rfl) (by kernel_rfl) (fun _ _ _ h => h) (Or.inr ⟨by kernel_rfl, rfl⟩) (by assumption) ?restr5_1_14
        try simp only [Act.put, List.getElem_toArray, List.getElem_cons_succ, List.getElem_cons_zero, List.setIfInBounds_toArray, List.set_cons_zero, List.set_cons_succ]
        refine wpAnyH_take (i := 15) (oi := _) (v := undef) rfl (by kernel_rfl) (by kernel_rfl) (by kernel_rfl) (fun _ _ _ h => h) (Or.inr ⟨by kernel_rfl, rfl⟩) (by assumption) ?restr5_1_15
        try simp only [Act.put, List.getElem_toArray, List.getElem_cons_succ, List.getElem_cons_zero, List.setIfInBounds_toArray, List.set_cons_zero, List.set_cons_succ]
        refine wpAnyH_take (i := 16) (oi := _) (v := undef) rfl (by kernel_rfl) (by kernel_rfl) (by kernel_rfl) (fun _ _ _ h => h) (Or.inr ⟨by kernel_rfl, rfl⟩) (by assumption) ?restr5_1_16
        try simp only [Act.put, List.getElem_toArray, List.getElem_cons_succ, List.getElem_cons_zero, List.setIfInBounds_toArray, List.set_cons_zero, List.set_cons_succ]
        refine wpAnyH_take (i := 17) (oi := _) (v := undef) rfl (by kernel_rfl) (by kernel_rfl) (by kernel_rfl) (fun _ _ _ h => h) (Or.inr ⟨by kernel_rfl, rfl⟩) (by assumption) ?restr5_1_17
        try simp only [Act.put, List.getElem_toArray, List.getElem_cons_succ, List.getElem_cons_zero, List.setIfInBounds_toArray, List.set_cons_zero, List.set_cons_succ]
        refine wpAnyH_take (i := 18) (oi := _) (v := ?vr5_1_18) rfl (by kernel_rfl) (by kernel_rfl) (by kernel_rfl) ?hqr5_1_18 (Or.inl ⟨by kernel_rfl, ?hyr5_1_18⟩) (by assumption) ?restr5_1_18
        case hqr5_1_18 => exact fun _ _ _ h => h
        case hyr5_1_18 => (intro w hSw; (try dsimp only at hSw); go_simp; try with_reducible rfl)
        try simp only [Act.put, List.getElem_toArray, List.getElem_cons_succ, List.getElem_cons_zero, List.setIfInBounds_toArray, List.set_cons_zero, List.set_cons_succ]
        refine wpAnyH_take (i := 19) (oi := _) (v := ?vr5_1_19) rfl (by kernel_rfl) (by kernel_rfl) (by kernel_rfl) ?hqr5_1_19 (Or.inl ⟨by kernel_rfl, ?hyr5_1_19⟩) (by assumption) ?restr5_1_19
        case hqr5_1_19 => exact fun _ _ _ h => h
        case hyr5_1_19 => (intro w hSw; (try dsimp only at hSw); go_simp; try with_reducible rfl)
        try simp only [Act.put, List.getElem_toArray, List.getElem_cons_succ, List.getElem_cons_zero, List.setIfInBounds_toArray, List.set_cons_zero, List.set_cons_succ]
        refine wpAnyH_take (i := 20) (oi := _) (v := ?vr5_1_20) rfl (by kernel_rfl) (by kernel_rfl) (by kernel_rfl) ?hqr5_1_20 (Or.inl ⟨by kernel_rfl, ?hyr5_1_20⟩) (by assumption) ?restr5_1_20
        case hqr5_1_20 => exact fun _ _ _ h => h
        case hyr5_1_20 => (intro w hSw; (try dsimp only at hSw); go_simp; try with_reducible rfl)
        try simp only [Act.put, List.getElem_toArray, List.getElem_cons_succ, List.getElem_cons_zero, List.setIfInBounds_toArray, List.set_cons_zero, List.set_cons_succ]
        refine wpAnyH_done (by kernel_rfl) ?_ _
        refine NoPanic.normal ?_
        go_wp2
        go_ret
        exact ⟨by rw [hR2]; rfl, hB5.then_ (by assumption : _ ∧ _ ∧ _ ∧ Bel w5 _).2.2.2⟩
      · have hlb : decide (n < -32768) = false := by simp; omega
        by_cases hu : 32767 < n
        · have hR2 : R = 133 := by rw [HR1.out, if_neg (by omega)]
          refine wp_region_noPanic ?_
          refine wp_region_held_drew (S := (fun V : World => V.cell? ⟨w.heap.size, 2, none⟩ = some (.int .i64 2) ∧ V.cell? ⟨w.heap.size + 1, 1, none⟩ = some (.int .i64 n) ∧ V.cell? ⟨w.heap.size + 1, 2, none⟩ = some (.int .u64 u) ∧ Bel w5 V)) (by kernel_rfl) ?_ (fun hHr6_0 => ?_)
          · (try dsimp only); (first | assumption | exact hS _ (Bel.refl w5).drew | exact hS _ hB6 | exact hS _ (hB6.then_ hb7))
          refine wpAnyH_take (i := 0) (oi := _) (v := ?vr6_1_0) rfl (by kernel_rfl) (by kernel_rfl) (by kernel_rfl) ?hqr6_1_0 (Or.inl ⟨by kernel_rfl, ?hyr6_1_0⟩) (by assumption) ?restr6_1_0
          case hqr6_1_0 => exact fun _ _ _ h => h
          case hyr6_1_0 => (intro w hSw; (try dsimp only at hSw); go_simp; try with_reducible rfl)
          try simp only [Act.put, List.getElem_toArray, List.getElem_cons_succ, List.getElem_cons_zero, List.setIfInBounds_toArray, List.set_cons_zero, List.set_cons_succ]
          refine wpAnyH_take (i := 1) (oi := _) (v := ?vr6_1_1) rfl (by kernel_rfl) (by kernel_rfl) (by kernel_rfl) ?hqr6_1_1 (Or.inl ⟨by kernel_rfl, ?hyr6_1_1⟩) (by assumption) ?restr6_1_1
          case hqr6_1_1 => exact fun _ _ _ h => h
          case hyr6_1_1 => (intro w hSw; (try dsimp only at hSw); go_simp; try with_reducible rfl)
          try simp only [Act.put, List.getElem_toArray, List.getElem_cons_succ, List.getElem_cons_zero, List.setIfInBounds_toArray, List.set_cons_zero, List.set_cons_succ]
          refine wpAnyH_take (i := 2) (oi := _) (v := ?vr6_1_2) rfl (by kernel_rfl) (by kernel_rfl) (by kernel_rfl) ?hqr6_1_2 (Or.inl ⟨by kernel_rfl, ?hyr6_1_2⟩) (by assumption) ?restr6_1_2
          case hqr6_1_2 => exact fun _ _ _ h => h
          case hyr6_1_2 => (intro w hSw; (try dsimp only at hSw); go_simp; try with_reducible rfl)
          try simp only [Act.put, List.getElem_toArray, List.getElem_cons_succ, List.getElem_cons_zero, List.setIfInBounds_toArray, List.set_cons_zero, List.set_cons_succ]
          refine wpAnyH_take (i := 3) (oi := _) (v := ?vr6_1_3) rfl (by kernel_rfl) (by kernel_rfl) (by kernel_rfl) ?hqr6_1_3 (Or.inl ⟨by kernel_rfl, ?hyr6_1_3⟩) (by assumption) ?restr6_1_3
          case hqr6_1_3 => exact fun _ _ _ h => h
          case hyr6_1_3 => (intro w hSw; (try dsimp only at hSw); go_simp; try with_reducible rfl)
          try simp only [Act.put, List.getElem_toArray, List.getElem_cons_succ, List.getElem_cons_zero, List.setIfInBounds_toArray, List.set_cons_zero, List.set_cons_succ]
          refine wpAnyH_take (i := 4) (oi := _) (v := ?vr6_1_4) rfl (by kernel_rfl) (by kernel_rfl) (by kernel_rfl) ?hqr6_1_4 (Or.inl ⟨by kernel_rfl, ?hyr6_1_4⟩) (by assumption) ?restr6_1_4
          case hqr6_1_4 => exact fun _ _ _ h => h
          case hyr6_1_4 => (intro w hSw; (try dsimp only at hSw); go_simp; try with_reducible rfl)
          try simp only [Act.put, List.getElem_toArray, List.getElem_cons_succ, List.getElem_cons_zero, List.setIfInBounds_toArray, List.set_cons_zero, List.set_cons_succ]
          refine wpAnyH_take (i := 5) (oi := _) (v := ?vr6_1_5) rfl (by kernel_rfl) (by kernel_rfl) (by kernel_rfl) ?hqr6_1_5 (Or.inl ⟨by kernel_rfl, ?hyr6_1_5⟩) (by assumption) ?restr6_1_5
          case hqr6_1_5 => exact fun _ _ _ h => h
          case hyr6_1_5 => (intro w hSw; (try dsimp only at hSw); go_simp; try with_reducible rfl)
          try simp only [Act.put, List.getElem_toArray, List.getElem_cons_succ, List.getElem_cons_zero, List.setIfInBounds_toArray, List.set_cons_zero, List.set_cons_succ]
          refine wpAnyH_take (i := 6) (oi := _) (v := ?vr6_1_6) rfl (by kernel_rfl) (by kernel_rfl) (by kernel_rfl) ?hqr6_1_6 (Or.inl ⟨by kernel_rfl, ?hyr6_1_6⟩) (by assumption) ?restr6_1_6
          case hqr6_1_6 => exact fun _ _ _ h => h
          case hyr6_1_6 => (intro w hSw; (try dsimp only at hSw); go_simp; try with_reducible rfl)
          try simp only [Act.put, List.getElem_toArray, List.getElem_cons_succ, List.getElem_cons_zero, List.setIfInBounds_toArray, List.set_cons_zero, List.set_cons_succ]
          refine wpAnyH_ready (rs := [7]) (by kernel_rfl) (by simp) ?_
          refine AllReadyH.cons (o := _) rfl (fun K hK => ?_) AllReadyH.nil
          go_simp
          (go_at_call 58; refine (HLE.out _).mono ?_; rintro e w6 ⟨rfl, hb6⟩; have hB6 : Bel w5 w6 := Bel.then_ (Bel.refl w5).drew hb6)
          try (go_wp2_with fail)
          refine hK.out _ _ ?_ (fun hHr6_1 => ?_)
          · (try dsimp only); (first | assumption | exact hS _ (Bel.refl w5).drew | exact hS _ hB6 | exact hS _ (hB6.then_ hb7))
          clear hK K hHr6_0
          try simp only [Act.put, List.getElem_toArray, List.getElem_cons_succ, List.getElem_cons_zero, List.setIfInBounds_toArray, List.set_cons_zero, List.set_cons_succ]
          refine wpAnyH_take (i := 8) (oi := _) (v := ?vr6_1_8) rfl (by kernel_rfl) (by kernel_rfl) (by kernel_rfl) ?hqr6_1_8 (Or.inl ⟨by kernel_rfl, ?hyr6_1_8⟩) (by assumption) ?restr6_1_8
          case hqr6_1_8 => exact fun _ _ _ h => h
          case hyr6_1_8 => (intro w hSw; (try dsimp only at hSw); go_simp; try with_reducible rfl)
          try simp only [Act.put, List.getElem_toArray, List.getElem_cons_succ, List.getElem_cons_zero, List.setIfInBounds_toArray, List.set_cons_zero, List.set_cons_succ]
          refine wpAnyH_take (i := 9) (oi := _) (v := ?vr6_1_9) rfl (by kernel_rfl) (by kernel_rfl) (by kernel_rfl) ?hqr6_1_9 (Or.inl ⟨by kernel_rfl, ?hyr6_1_9⟩) (by assumption) ?restr6_1_9
          case hqr6_1_9 => exact fun _ _ _ h => h
          case hyr6_1_9 => (intro w hSw; (try dsimp only at hSw); go_simp; try with_reducible rfl)
          try simp only [Act.put, List.getElem_toArray, List.getElem_cons_succ, List.getElem_cons_zero, List.setIfInBounds_toArray, List.set_cons_zero, List.set_cons_succ]
          refine wpAnyH_take (i := 10) (oi := _) (v := ?vr6_1_10) rfl (by kernel_rfl) (by kernel_rfl) (by kernel_rfl) ?hqr6_1_10 (Or.inl ⟨by kernel_rfl, ?hyr6_1_10⟩) (by assumption) ?restr6_1_10
          case hqr6_1_10 => exact fun _ _ _ h => h
          case hyr6_1_10 => (intro w hSw; (try dsimp only at hSw); go_simp; try with_reducible rfl)
          try simp only [Act.put, List.getElem_toArray, List.getElem_cons_succ, List.getElem_cons_zero, List.setIfInBounds_toArray, List.set_cons_zero, List.set_cons_succ]
          refine wpAnyH_take (i := 11) (oi := _) (v := ?vr6_1_11) rfl (by kernel_rfl) (by kernel_rfl) (by kernel_rfl) ?hqr6_1_11 (Or.inl ⟨by kernel_rfl, ?hyr6_1_11⟩) (by assumption) ?restr6_1_11
          case hqr6_1_11 => exact fun _ _ _ h => h
          case hyr6_1_11 => (intro w hSw; (try dsimp only at hSw); go_simp; try with_reducible rfl)
          try simp only [Act.put, List.getElem_toArray, List.getElem_cons_succ, List.getElem_cons_zero, List.setIfInBounds_toArray, List.set_cons_zero, List.set_cons_succ]
          refine wpAnyH_take (i := 12) (oi := _) (v := ?vr6_1_12) rfl (by kernel_rfl) (by kernel_rfl) (by kernel_rfl) ?hqr6_1_12 (Or.inl ⟨by kernel_rfl, ?hyr6_1_12⟩) (by assumption) ?restr6_1_12
          case hqr6_1_12 => exact fun _ _ _ h => h
          case hyr6_1_12 => (intro w hSw; (try dsimp only at hSw); go_simp; try with_reducible rfl)
          try simp only [Act.put, List.getElem_toArray, List.getElem_cons_succ, List.getElem_cons_zero, List.setIfInBounds_toArray, List.set_cons_zero, List.set_cons_succ]
          refine wpAnyH_take (i := 13) (oi := _) (v := ?vr6_1_13) rfl (by kernel_rfl) (by kernel_rfl) (by kernel_rfl) ?hqr6_1_13 (Or.inl ⟨by kernel_rfl, ?hyr6_1_13⟩) (by assumption) ?restr6_1_13
          case hqr6_1_13 => exact fun _ _ _ h => h
          case hyr6_1_13 => (intro w hSw; (try dsimp only at hSw); go_simp; try with_reducible rfl)
          try simp only [Act.put, List.getElem_toArray, List.getElem_cons_succ, List.getElem_cons_zero, List.setIfInBounds_toArray, List.set_cons_zero, List.set_cons_succ]
          refine wpAnyH_ready (rs := [14]) (by kernel_rfl) (by simp) ?_
          refine AllReadyH.cons (o := _) rfl (fun K hK => ?_) AllReadyH.nil
          go_simp
          (go_at_call 58; refine (HLE.out _).mono ?_; rintro e w7 ⟨rfl, hb7⟩)
          try (go_wp2_with fail)
          refine hK.out _ _ ?_ (fun hHr6_2 => ?_)
          · (try dsimp only); (first | assumption | exact hS _ (Bel.refl w5).drew | exact hS _ hB6 | exact hS _ (hB6.then_ hb7))
          clear hK K hHr6_1
          try simp only [Act.put, List.getElem_toArray, List.getElem_cons_succ, List.getElem_cons_zero, List.setIfInBounds_toArray, List.set_cons_zero, List.set_cons_succ]
          refine wpAnyH_take (i := 15) (oi := _) (v := ?vr6_1_15) rfl (by kernel_rfl) (by kernel_rfl) (by kernel_rfl) ?hqr6_1_15 (Or.inl ⟨by kernel_rfl, ?hyr6_1_15⟩) (by assumption) ?restr6_1_15
          case hqr6_1_15 => exact fun _ _ _ h => h
          case hyr6_1_15 => (intro w hSw; (try dsimp only at hSw); go_simp; try with_reducible rfl)
          try simp only [Act.put, List.getElem_toArray, List.getElem_cons_succ, List.getElem_cons_zero, List.setIfInBounds_toArray, List.set_cons_zero, List.set_cons_succ]
          refine wpAnyH_take (i := 16) (oi := _) (v := ?vr6_1_16) rfl (by kernel_rfl) (by kernel_rfl) (by kernel_rfl) ?hqr6_1_16 (Or.inl ⟨by kernel_rfl, ?hyr6_1_16⟩) (by assumption) ?restr6_1_16
          case hqr6_1_16 => exact fun _ _ _ h => h
          case hyr6_1_16 => (intro w hSw; (try dsimp only at hSw); go_simp; try with_reducible rfl)
          try simp only [Act.put, List.getElem_toArray, List.getElem_cons_succ, List.getElem_cons_zero, List.setIfInBounds_toArray, List.set_cons_zero, List.set_cons_succ]
          refine wpAnyH_take (i := 17) (oi := _) (v := ?vr6_1_17) rfl (by kernel_rfl) (by kernel_rfl) (by kernel_rfl) ?hqr6_1_17 (Or.inl ⟨by kernel_rfl, ?hyr6_1_17⟩) (by assumption) ?restr6_1_17
          case hqr6_1_17 => exact fun _ _ _ h => h
          case hyr6_1_17 => (intro w hSw; (try dsimp only at hSw); go_simp; try with_reducible rfl)
          try simp only [Act.put, List.getElem_toArray, List.getElem_cons_succ, List.getElem_cons_zero, List.setIfInBounds_toArray, List.set_cons_zero, List.set_cons_succ]
          refine wpAnyH_take (i := 18) (oi := _) (v := ?vr6_1_18) rfl (by kernel_rfl) (by kernel_rfl) (by kernel_rfl) ?hqr6_1_18 (Or.inl ⟨by kernel_rfl, ?hyr6_1_18⟩) (by assumption) ?restr6_1_18
          case hqr6_1_18 => exact fun _ _ _ h => h
          case hyr6_1_18 => (intro w hSw; (try dsimp only at hSw); go_simp; try with_reducible rfl)
          try simp only [Act.put, List.getElem_toArray, List.getElem_cons_succ, List.getElem_cons_zero, List.setIfInBounds_toArray, List.set_cons_zero, List.set_cons_succ]
          refine wpAnyH_take (i := 19) (oi := _) (v := ?vr6_1_19) rfl (by kernel_rfl) (by kernel_rfl) (by kernel_rfl) ?hqr6_1_19 (Or.inl ⟨by kernel_rfl, ?hyr6_1_19⟩) (by assumption) ?restr6_1_19
          case hqr6_1_19 => exact fun _ _ _ h => h
          case hyr6_1_19 => (intro w hSw; (try dsimp only at hSw); go_simp; try with_reducible rfl)
          try simp only [Act.put, List.getElem_toArray, List.getElem_cons_succ, List.getElem_cons_zero, List.setIfInBounds_toArray, List.set_cons_zero, List.set_cons_succ]
          refine wpAnyH_take (i := 20) (oi := _) (v := ?vr6_1_20) rfl (by kernel_rfl) (by kernel_rfl) (by kernel_rfl) ?hqr6_1_20 (Or.inl ⟨by kernel_rfl, ?hyr6_1_20⟩) (by assumption) ?restr6_1_20
          case hqr6_1_20 => exact fun _ _ _ h => h
          case hyr6_1_20 => (intro w hSw; (try dsimp only at hSw); go_simp; try with_reducible rfl)
          try simp only [Act.put, List.getElem_toArray, List.getElem_cons_succ, List.getElem_cons_zero, List.setIfInBounds_toArray, List.set_cons_zero, List.set_cons_succ]
          refine wpAnyH_done (by kernel_rfl) ?_ _
          refine NoPanic.normal ?_
          go_wp2
          go_ret
          exact ⟨by rw [hR2]; rfl, hB5.then_ (by assumption : _ ∧ _ ∧ _ ∧ Bel w5 _).2.2.2⟩
        · have hub : decide (32767 < n) = false := by simp; omega
          have hR2 : R = 0 := by rw [HR1.out, if_pos (by omega)]
          refine wp_region_noPanic ?_
          refine wp_region_held_drew (S := (fun V : World => V.cell? ⟨w.heap.size, 2, none⟩ = some (.int .i64 2) ∧ V.cell? ⟨w.heap.size + 1, 1, none⟩ = some (.int .i64 n) ∧ V.cell? ⟨w.heap.size + 1, 2, none⟩ = some (.int .u64 u) ∧ Bel w5 V)) (by kernel_rfl) ?_ (fun hHr7_0 => ?_)
          · (try dsimp only); (first | assumption | exact hS _ (Bel.refl w5).drew | exact hS _ hB6 | exact hS _ (hB6.then_ hb7))
          refine wpAnyH_take (i := 0) (oi := _) (v := ?vr7_1_0) rfl (by kernel_rfl) (by kernel_rfl) (by kernel_rfl) ?hqr7_1_0 (Or.inl ⟨by kernel_rfl, ?hyr7_1_0⟩) (by assumption) ?restr7_1_0
          case hqr7_1_0 => exact fun _ _ _ h => h
          case hyr7_1_0 => (intro w hSw; (try dsimp only at hSw); go_simp; try with_reducible rfl)
          try simp only [Act.put, List.getElem_toArray, List.getElem_cons_succ, List.getElem_cons_zero, List.setIfInBounds_toArray, List.set_cons_zero, List.set_cons_succ]
          refine wpAnyH_take (i := 1) (oi := _) (v := ?vr7_1_1) rfl (by kernel_rfl) (by kernel_rfl) (by kernel_rfl) ?hqr7_1_1 (Or.inl ⟨by kernel_rfl, ?hyr7_1_1⟩) (by assumption) ?restr7_1_1
          case hqr7_1_1 => exact fun _ _ _ h => h
          case hyr7_1_1 => (intro w hSw; (try dsimp only at hSw); go_simp; try with_reducible rfl)
          try simp only [Act.put, List.getElem_toArray, List.getElem_cons_succ, List.getElem_cons_zero, List.setIfInBounds_toArray, List.set_cons_zero, List.set_cons_succ]
          refine wpAnyH_take (i := 2) (oi := _) (v := ?vr7_1_2) rfl (by kernel_rfl) (by kernel_rfl) (by kernel_rfl) ?hqr7_1_2 (Or.inl ⟨by kernel_rfl, ?hyr7_1_2⟩) (by assumption) ?restr7_1_2
          case hqr7_1_2 => exact fun _ _ _ h => h
          case hyr7_1_2 => (intro w hSw; (try dsimp only at hSw); go_simp; try with_reducible rfl)
          try simp only [Act.put, List.getElem_toArray, List.getElem_cons_succ, List.getElem_cons_zero, List.setIfInBounds_toArray, List.set_cons_zero, List.set_cons_succ]
          refine wpAnyH_take (i := 3) (oi := _) (v := ?vr7_1_3) rfl (by kernel_rfl) (by kernel_rfl) (by kernel_rfl) ?hqr7_1_3 (Or.inl ⟨by kernel_rfl, ?hyr7_1_3⟩) (by assumption) ?restr7_1_3
          case hqr7_1_3 => exact fun _ _ _ h => h
          case hyr7_1_3 => (intro w hSw; (try dsimp only at hSw); go_simp; try with_reducible rfl)
          try simp only [Act.put, List.getElem_toArray, List.getElem_cons_succ, List.getElem_cons_zero, List.setIfInBounds_toArray, List.set_cons_zero, List.set_cons_succ]
          refine wpAnyH_take (i := 4) (oi := _) (v := ?vr7_1_4) rfl (by kernel_rfl) (by kernel_rfl) (by kernel_rfl) ?hqr7_1_4 (Or.inl ⟨by kernel_rfl, ?hyr7_1_4⟩) (by assumption) ?restr7_1_4
          case hqr7_1_4 => exact fun _ _ _ h => h
          case hyr7_1_4 => (intro w hSw; (try dsimp only at hSw); go_simp; try with_reducible rfl)
          try simp only [Act.put, List.getElem_toArray, List.getElem_cons_succ, List.getElem_cons_zero, List.setIfInBounds_toArray, List.set_cons_zero, List.set_cons_succ]
          refine wpAnyH_take (i := 5) (oi := _) (v := ?vr7_1_5) rfl (by kernel_rfl) (by kernel_rfl) (by kernel_rfl) ?hqr7_1_5 (Or.inl ⟨by kernel_rfl, ?hyr7_1_5⟩) (by assumption) ?restr7_1_5
          case hqr7_1_5 => exact fun _ _ _ h => h
          case hyr7_1_5 => (intro w hSw; (try dsimp only at hSw); go_simp; try with_reducible rfl)
          try simp only [Act.put, List.getElem_toArray, List.getElem_cons_succ, List.getElem_cons_zero, List.setIfInBounds_toArray, List.set_cons_zero, List.set_cons_succ]
          refine wpAnyH_take (i := 6) (oi := _) (v := ?vr7_1_6) rfl (by kernel_rfl) (by kernel_rfl) (by kernel_rfl) ?hqr7_1_6 (Or.inl ⟨by kernel_rfl, ?hyr7_1_6⟩) (by assumption) ?restr7_1_6
          case hqr7_1_6 => exact fun _ _ _ h => h
          case hyr7_1_6 => (intro w hSw; (try dsimp only at hSw); go_simp; try with_reducible rfl)
          try simp only [Act.put, List.getElem_toArray, List.getElem_cons_succ, List.getElem_cons_zero, List.setIfInBounds_toArray, List.set_cons_zero, List.set_cons_succ]
          refine wpAnyH_ready (rs := [7]) (by kernel_rfl) (by simp) ?_
          refine AllReadyH.cons (o := _) rfl (fun K hK => ?_) AllReadyH.nil
          go_simp
          (go_at_call 58; refine (HLE.out _).mono ?_; rintro e w6 ⟨rfl, hb6⟩; have hB6 : Bel w5 w6 := Bel.then_ (Bel.refl w5).drew hb6)
          try (go_wp2_with fail)
          refine hK.out _ _ ?_ (fun hHr7_1 => ?_)
          · (try dsimp only); (first | assumption | exact hS _ (Bel.refl w5).drew | exact hS _ hB6 | exact hS _ (hB6.then_ hb7))
          clear hK K hHr7_0
          try simp only [Act.put, List.getElem_toArray, List.getElem_cons_succ, List.getElem_cons_zero, List.setIfInBounds_toArray, List.set_cons_zero, List.set_cons_succ]
          refine wpAnyH_take (i := 8) (oi := _) (v := ?vr7_1_8) rfl (by kernel_rfl) (by kernel_rfl) (by kernel_rfl) ?hqr7_1_8 (Or.inl ⟨by kernel_rfl, ?hyr7_1_8⟩) (by assumption) ?restr7_1_8
          case hqr7_1_8 => exact fun _ _ _ h => h
          case hyr7_1_8 => (intro w hSw; (try dsimp only at hSw); go_simp; try with_reducible rfl)
          try simp only [Act.put, List.getElem_toArray, List.getElem_cons_succ, List.getElem_cons_zero, List.setIfInBounds_toArray, List.set_cons_zero, List.set_cons_succ]
          refine wpAnyH_take (i := 9) (oi := _) (v := ?vr7_1_9) rfl (by kernel_rfl) (by kernel_rfl) (by kernel_rfl) ?hqr7_1_9 (Or.inl ⟨by kernel_rfl, ?hyr7_1_9⟩) (by assumption) ?restr7_1_9
          case hqr7_1_9 => exact fun _ _ _ h => h
          case hyr7_1_9 => (intro w hSw; (try dsimp only at hSw); go_simp; try with_reducible rfl)
          try simp only [Act.put, List.getElem_toArray, List.getElem_cons_succ, List.getElem_cons_zero, List.setIfInBounds_toArray, List.set_cons_zero, List.set_cons_succ]
          refine wpAnyH_take (i := 10) (oi := _) (v := ?vr7_1_10) rfl (by kernel_rfl) (by kernel_rfl) (by kernel_rfl) ?hqr7_1_10 (Or.inl ⟨by kernel_rfl, ?hyr7_1_10⟩) (by assumption) ?restr7_1_10
          case hqr7_1_10 => exact fun _ _ _ h => h
          case hyr7_1_10 => (intro w hSw; (try dsimp only at hSw); go_simp; try with_reducible rfl)
          try simp only [Act.put, List.getElem_toArray, List.getElem_cons_succ, List.getElem_cons_zero, List.setIfInBounds_toArray, List.set_cons_zero, List.set_cons_succ]
          refine wpAnyH_take (i := 11) (oi := _) (v := ?vr7_1_11) rfl (by kernel_rfl) (by kernel_rfl) (by kernel_rfl) ?hqr7_1_11 (Or.inl ⟨by kernel_rfl, ?hyr7_1_11⟩) (by assumption) ?restr7_1_11
          case hqr7_1_11 => exact fun _ _ _ h => h
          case hyr7_1_11 => (intro w hSw; (try dsimp only at hSw); go_simp; try with_reducible rfl)
          try simp only [Act.put, List.getElem_toArray, List.getElem_cons_succ, List.getElem_cons_zero, List.setIfInBounds_toArray, List.set_cons_zero, List.set_cons_succ]
          refine wpAnyH_take (i := 12) (oi := _) (v := ?vr7_1_12) rfl (by kernel_rfl) (by kernel_rfl) (by kernel_rfl) ?hqr7_1_12 (Or.inl ⟨by kernel_rfl, ?hyr7_1_12⟩) (by assumption) ?restr7_1_12
          case hqr7_1_12 => exact fun _ _ _ h => h
          case hyr7_1_12 => (intro w hSw; (try dsimp only at hSw); go_simp; try with_reducible rfl)
          try simp only [Act.put, List.getElem_toArray, List.getElem_cons_succ, List.getElem_cons_zero, List.setIfInBounds_toArray, List.set_cons_zero, List.set_cons_succ]
          refine wpAnyH_take (i := 13) (oi := _) (v := ?vr7_1_13) rfl (by kernel_rfl) (by kernel_rfl) (by kernel_rfl) ?hqr7_1_13 (Or.inl ⟨by kernel_rfl, ?hyr7_1_13⟩) (by assumption) ?restr7_1_13
          case hqr7_1_13 => exact fun _ _ _ h => h
          case hyr7_1_13 => (intro w hSw; (try dsimp only at hSw); go_simp; try with_reducible rfl)
          try simp only [Act.put, List.getElem_toArray, List.getElem_cons_succ, List.getElem_cons_zero, List.setIfInBounds_toArray, List.set_cons_zero, List.set_cons_succ]
          refine wpAnyH_ready (rs := [14]) (by kernel_rfl) (by simp) ?_
          refine AllReadyH.cons (o := _) rfl (fun K hK => ?_) AllReadyH.nil
          go_simp
          (go_at_call 58; refine (HLE.out _).mono ?_; rintro e w7 ⟨rfl, hb7⟩)
          try (go_wp2_with fail)
          refine hK.out _ _ ?_ (fun hHr7_2 => ?_)
          · (try dsimp only); (first | assumption | exact hS _ (Bel.refl w5).drew | exact hS _ hB6 | exact hS _ (hB6.then_ hb7))
          clear hK K hHr7_1
          try simp only [Act.put, List.getElem_toArray, List.getElem_cons_succ, List.getElem_cons_zero, List.setIfInBounds_toArray, List.set_cons_zero, List.set_cons_succ]
          refine wpAnyH_take (i := 15) (oi := _) (v := ?vr7_1_15) rfl (by kernel_rfl) (by kernel_rfl) (by kernel_rfl) ?hqr7_1_15 (Or.inl ⟨by kernel_rfl, ?hyr7_1_15⟩) (by assumption) ?restr7_1_15
          case hqr7_1_15 => exact fun _ _ _ h => h
          case hyr7_1_15 => (intro w hSw; (try dsimp only at hSw); go_simp; try with_reducible rfl)
          try simp only [Act.put, List.getElem_toArray, List.getElem_cons_succ, List.getElem_cons_zero, List.setIfInBounds_toArray, List.set_cons_zero, List.set_cons_succ]
          refine wpAnyH_take (i := 16) (oi := _) (v := ?vr7_1_16) rfl (by kernel_rfl) (by kernel_rfl) (by kernel_rfl) ?hqr7_1_16 (Or.inl ⟨by kernel_rfl, ?hyr7_1_16⟩) (by assumption) ?restr7_1_16
          case hqr7_1_16 => exact fun _ _ _ h => h
          case hyr7_1_16 => (intro w hSw; (try dsimp only at hSw); go_simp; try with_reducible rfl)
          try simp only [Act.put, List.getElem_toArray, List.getElem_cons_succ, List.getElem_cons_zero, List.setIfInBounds_toArray, List.set_cons_zero, List.set_cons_succ]
          refine wpAnyH_take (i := 17) (oi := _) (v := ?vr7_1_17) rfl (by kernel_rfl) (by kernel_rfl) (by kernel_rfl) ?hqr7_1_17 (Or.inl ⟨by kernel_rfl, ?hyr7_1_17⟩) (by assumption) ?restr7_1_17
          case hqr7_1_17 => exact fun _ _ _ h => h
          case hyr7_1_17 => (intro w hSw; (try dsimp only at hSw); go_simp; try with_reducible rfl)
          try simp only [Act.put, List.getElem_toArray, List.getElem_cons_succ, List.getElem_cons_zero, List.setIfInBounds_toArray, List.set_cons_zero, List.set_cons_succ]
          refine wpAnyH_take (i := 18) (oi := _) (v := ?vr7_1_18) rfl (by kernel_rfl) (by kernel_rfl) (by kernel_rfl) ?hqr7_1_18 (Or.inl ⟨by kernel_rfl, ?hyr7_1_18⟩) (by assumption) ?restr7_1_18
          case hqr7_1_18 => exact fun _ _ _ h => h
          case hyr7_1_18 => (intro w hSw; (try dsimp only at hSw); go_simp; try with_reducible rfl)
          try simp only [Act.put, List.getElem_toArray, List.getElem_cons_succ, List.getElem_cons_zero, List.setIfInBounds_toArray, List.set_cons_zero, List.set_cons_succ]
          refine wpAnyH_take (i := 19) (oi := _) (v := ?vr7_1_19) rfl (by kernel_rfl) (by kernel_rfl) (by kernel_rfl) ?hqr7_1_19 (Or.inl ⟨by kernel_rfl, ?hyr7_1_19⟩) (by assumption) ?restr7_1_19
          case hqr7_1_19 => exact fun _ _ _ h => h
          case hyr7_1_19 => (intro w hSw; (try dsimp only at hSw); go_simp; try with_reducible rfl)
          try simp only [Act.put, List.getElem_toArray, List.getElem_cons_succ, List.getElem_cons_zero, List.setIfInBounds_toArray, List.set_cons_zero, List.set_cons_succ]
          refine wpAnyH_take (i := 20) (oi := _) (v := ?vr7_1_20) rfl (by kernel_rfl) (by kernel_rfl) (by kernel_rfl) ?hqr7_1_20 (Or.inl ⟨by kernel_rfl, ?hyr7_1_20⟩) (by assumption) ?restr7_1_20
          case hqr7_1_20 => exact fun _ _ _ h => h
          case hyr7_1_20 => (intro w hSw; (try dsimp only at hSw); go_simp; try with_reducible rfl)
          try simp only [Act.put, List.getElem_toArray, List.getElem_cons_succ, List.getElem_cons_zero, List.setIfInBounds_toArray, List.set_cons_zero, List.set_cons_succ]
          refine wpAnyH_done (by kernel_rfl) ?_ _
          refine NoPanic.normal ?_
          have hB7 := (by assumption : _ ∧ _ ∧ _ ∧ Bel w5 _).2.2.2
          go_wp2
          refine wp_region_noPanic ?_
          refine wp_region_held_drew (S := (fun V : World => Bel w5 V)) (by kernel_rfl) ?_ (fun hHr8_0 => ?_)
          · (try dsimp only); (first | assumption | exact hB7.drew)
          refine wpAnyH_take (i := 0) (oi := _) (v := ?vr8_1_0) rfl (by kernel_rfl) (by kernel_rfl) (by kernel_rfl) ?hqr8_1_0 (Or.inl ⟨by kernel_rfl, ?hyr8_1_0⟩) (by assumption) ?restr8_1_0
          case hqr8_1_0 => exact fun _ _ _ h => h
          case hyr8_1_0 => (intro w hSw; (try dsimp only at hSw); go_simp; try with_reducible rfl)
          try simp only [Act.put, List.getElem_toArray, List.getElem_cons_succ, List.getElem_cons_zero, List.setIfInBounds_toArray, List.set_cons_zero, List.set_cons_succ]
          refine wpAnyH_take (i := 1) (oi := _) (v := ?vr8_1_1) rfl (by kernel_rfl) (by kernel_rfl) (by kernel_rfl) ?hqr8_1_1 (Or.inl ⟨by kernel_rfl, ?hyr8_1_1⟩) (by assumption) ?restr8_1_1
          case hqr8_1_1 => exact fun _ _ _ h => h
          case hyr8_1_1 => (intro w hSw; (try dsimp only at hSw); go_simp; try with_reducible rfl)
          try simp only [Act.put, List.getElem_toArray, List.getElem_cons_succ, List.getElem_cons_zero, List.setIfInBounds_toArray, List.set_cons_zero, List.set_cons_succ]
          refine wpAnyH_take (i := 2) (oi := _) (v := ?vr8_1_2) rfl (by kernel_rfl) (by kernel_rfl) (by kernel_rfl) ?hqr8_1_2 (Or.inl ⟨by kernel_rfl, ?hyr8_1_2⟩) (by assumption) ?restr8_1_2
          case hqr8_1_2 => exact fun _ _ _ h => h
          case hyr8_1_2 => (intro w hSw; (try dsimp only at hSw); go_simp; try with_reducible rfl)
          try simp only [Act.put, List.getElem_toArray, List.getElem_cons_succ, List.getElem_cons_zero, List.setIfInBounds_toArray, List.set_cons_zero, List.set_cons_succ]
          refine wpAnyH_take (i := 3) (oi := _) (v := undef) rfl (by kernel_rfl) (by kernel_rfl) (by kernel_rfl) (fun _ _ _ h => h) (Or.inr ⟨by kernel_rfl, rfl⟩) (by assumption) ?restr8_1_3
          try simp only [Act.put, List.getElem_toArray, List.getElem_cons_succ, List.getElem_cons_zero, List.setIfInBounds_toArray, List.set_cons_zero, List.set_cons_succ]
          refine wpAnyH_take (i := 4) (oi := _) (v := undef) rfl (by kernel_rfl) (by kernel_rfl) (by kernel_rfl) (fun _ _ _ h => h) (Or.inr ⟨by kernel_rfl, rfl⟩) (by assumption) ?restr8_1_4
          try simp only [Act.put, List.getElem_toArray, List.getElem_cons_succ, List.getElem_cons_zero, List.setIfInBounds_toArray, List.set_cons_zero, List.set_cons_succ]
          refine wpAnyH_take (i := 5) (oi := _) (v := undef) rfl (by kernel_rfl) (by kernel_rfl) (by kernel_rfl) (fun _ _ _ h => h) (Or.inr ⟨by kernel_rfl, rfl⟩) (by assumption) ?restr8_1_5
          try simp only [Act.put, List.getElem_toArray, List.getElem_cons_succ, List.getElem_cons_zero, List.setIfInBounds_toArray, List.set_cons_zero, List.set_cons_succ]
          refine wpAnyH_take (i := 6) (oi := _) (v := undef) rfl (by kernel_rfl) (by kernel_rfl) (by kernel_rfl) (fun _ _ _ h => h) (Or.inr ⟨by kernel_rfl, rfl⟩) (by assumption) ?restr8_1_6
          try simp only [Act.put, List.getElem_toArray, List.getElem_cons_succ, List.getElem_cons_zero, List.setIfInBounds_toArray, List.set_cons_zero, List.set_cons_succ]
          refine wpAnyH_take (i := 7) (oi := _) (v := undef) rfl (by kernel_rfl) (by kernel_rfl) (by kernel_rfl) (fun _ _ _ h => h) (Or.inr ⟨by kernel_rfl, rfl⟩) (by assumption) ?restr8_1_7
          try simp only [Act.put, List.getElem_toArray, List.getElem_cons_succ, List.getElem_cons_zero, List.setIfInBounds_toArray, List.set_cons_zero, List.set_cons_succ]
          refine wpAnyH_take (i := 8) (oi := _) (v := undef) rfl (by kernel_rfl) (by kernel_rfl) (by kernel_rfl) (fun _ _ _ h => h) (Or.inr ⟨by kernel_rfl, rfl⟩) (by assumption) ?restr8_1_8
          try simp only [Act.put, List.getElem_toArray, List.getElem_cons_succ, List.getElem_cons_zero, List.setIfInBounds_toArray, List.set_cons_zero, List.set_cons_succ]
          refine wpAnyH_take (i := 9) (oi := _) (v := ?vr8_1_9) rfl (by kernel_rfl) (by kernel_rfl) (by kernel_rfl) ?hqr8_1_9 (Or.inl ⟨by kernel_rfl, ?hyr8_1_9⟩) (by assumption) ?restr8_1_9
          case hqr8_1_9 => exact fun _ _ _ h => h
          case hyr8_1_9 => (intro w hSw; (try dsimp only at hSw); go_simp; try with_reducible rfl)
          try simp only [Act.put, List.getElem_toArray, List.getElem_cons_succ, List.getElem_cons_zero, List.setIfInBounds_toArray, List.set_cons_zero, List.set_cons_succ]
          refine wpAnyH_take (i := 10) (oi := _) (v := ?vr8_1_10) rfl (by kernel_rfl) (by kernel_rfl) (by kernel_rfl) ?hqr8_1_10 (Or.inl ⟨by kernel_rfl, ?hyr8_1_10⟩) (by assumption) ?restr8_1_10
          case hqr8_1_10 => exact fun _ _ _ h => h
          case hyr8_1_10 => (intro w hSw; (try dsimp only at hSw); go_simp; try with_reducible rfl)
          try simp only [Act.put, List.getElem_toArray, List.getElem_cons_succ, List.getElem_cons_zero, List.setIfInBounds_toArray, List.set_cons_zero, List.set_cons_succ]
          refine wpAnyH_done (by kernel_rfl) ?_ _
          refine NoPanic.normal ?_
          go_wp2
          go_ret
          exact ⟨by rw [hR2]; rfl, hB5.then_ hB7.drew⟩
    · simp only [leastI] at HLE HR1
      have v1 : IntKind.i64.wrap (-2147483647) = -2147483647 := by decide
      have v2 : IntKind.i64.wrap 2147483647 = 2147483647 := by decide
      have v3 : IntKind.i64.wrap (-2147483648 + 1) = -2147483647 := by decide
      have v4 : IntKind.i64.wrap (-(-2147483647)) = 2147483647 := by decide
      go_enter Tryz.func24, Tryz.ntmps24
      go_wp2_with (first | (go_at_call 56; refine (HCO.out _).mono ?_; rintro e w4 ⟨rfl, hb4⟩; obtain ⟨⟨a0, a1, a2, a3, c0, c1, c2, c3⟩, hB4⟩ := HCL.out _ hb4) | (go_at_call 57; refine (HCH.out _).mono ?_; rintro e w5 ⟨rfl, hb5⟩; obtain ⟨⟨d0, d1, d2, d3, e0, e1, e2, e3⟩, hB5⟩ := HCL.out _ (hb4.then_ hb5)))
      have hS : ∀ V, Bel w5 V → (V.cell? ⟨w.heap.size, 2, none⟩ = some (.int .i64 4) ∧ V.cell? ⟨w.heap.size + 1, 1, none⟩ = some (.int .i64 n) ∧ V.cell? ⟨w.heap.size + 1, 2, none⟩ = some (.int .u64 u) ∧ Bel w5 V) := fun V h => ⟨h.c d2, h.c e1, h.c e2, h⟩
      by_cases hl : n < -2147483648
      · have hR2 : R = 133 := by rw [HR1.out, if_neg (by omega)]
        refine wp_region_noPanic ?_
        refine wp_region_held_drew (S := (fun V : World => V.cell? ⟨w.heap.size, 2, none⟩ = some (.int .i64 4) ∧ V.cell? ⟨w.heap.size + 1, 1, none⟩ = some (.int .i64 n) ∧ V.cell? ⟨w.heap.size + 1, 2, none⟩ = some (.int .u64 u) ∧ Bel w5 V)) (by kernel_rfl) ?_ (fun hHr9_0 => ?_)
        · (try dsimp only); (first | assumption | exact hS _ (Bel.refl w5).drew | exact hS _ hB6 | exact hS _ (hB6.then_ hb7))
        refine wpAnyH_take (i := 0) (oi := _) (v := ?vr9_1_0) rfl (by kernel_rfl) (by kernel_rfl) (by kernel_rfl) ?hqr9_1_0 (Or.inl ⟨by kernel_rfl, ?hyr9_1_0⟩) (by assumption) ?restr9_1_0
        case hqr9_1_0 => exact fun _ _ _ h => h
        case hyr9_1_0 => (intro w hSw; (try dsimp only at hSw); go_simp; try with_reducible rfl)
        try simp only [Act.put, List.getElem_toArray, List.getElem_cons_succ, List.getElem_cons_zero, List.setIfInBounds_toArray, List.set_cons_zero, List.set_cons_succ]
        refine wpAnyH_take (i := 1) (oi := _) (v := ?vr9_1_1) rfl (by kernel_rfl) (by kernel_rfl) (by kernel_rfl) ?hqr9_1_1 (Or.inl ⟨by kernel_rfl, ?hyr9_1_1⟩) (by assumption) ?restr9_1_1
        case hqr9_1_1 => exact fun _ _ _ h => h
        case hyr9_1_1 => (intro w hSw; (try dsimp only at hSw); go_simp; try with_reducible rfl)
        try simp only [Act.put, List.getElem_toArray, List.getElem_cons_succ, List.getElem_cons_zero, List.setIfInBounds_toArray, List.set_cons_zero, List.set_cons_succ]
        refine wpAnyH_take (i := 2) (oi := _) (v := ?vr9_1_2) rfl (by kernel_rfl) (by kernel_rfl) (by kernel_rfl) ?hqr9_1_2 (Or.inl ⟨by kernel_rfl, ?hyr9_1_2⟩) (by assumption) ?restr9_1_2
        case hqr9_1_2 => exact fun _ _ _ h => h
        case hyr9_1_2 => (intro w hSw; (try dsimp only at hSw); go_simp; try with_reducible rfl)
        try simp only [Act.put, List.getElem_toArray, List.getElem_cons_succ, List.getElem_cons_zero, List.setIfInBounds_toArray, List.set_cons_zero, List.set_cons_succ]
        refine wpAnyH_take (i := 3) (oi := _) (v := ?vr9_1_3) rfl (by kernel_rfl) (by kernel_rfl) (by kernel_rfl) ?hqr9_1_3 (Or.inl ⟨by kernel_rfl, ?hyr9_1_3⟩) (by assumption) ?restr9_1_3
        case hqr9_1_3 => exact fun _ _ _ h => h
        case hyr9_1_3 => (intro w hSw; (try dsimp only at hSw); go_simp; try with_reducible rfl)
        try simp only [Act.put, List.getElem_toArray, List.getElem_cons_succ, List.getElem_cons_zero, List.setIfInBounds_toArray, List.set_cons_zero, List.set_cons_succ]
        refine wpAnyH_take (i := 4) (oi := _) (v := ?vr9_1_4) rfl (by kernel_rfl) (by kernel_rfl) (by kernel_rfl) ?hqr9_1_4 (Or.inl ⟨by kernel_rfl, ?hyr9_1_4⟩) (by assumption) ?restr9_1_4
        case hqr9_1_4 => exact fun _ _ _ h => h
        case hyr9_1_4 => (intro w hSw; (try dsimp only at hSw); go_simp; try with_reducible rfl)
        try simp only [Act.put, List.getElem_toArray, List.getElem_cons_succ, List.getElem_cons_zero, List.setIfInBounds_toArray, List.set_cons_zero, List.set_cons_succ]
        refine wpAnyH_take (i := 5) (oi := _) (v := ?vr9_1_5) rfl (by kernel_rfl) (by kernel_rfl) (by kernel_rfl) ?hqr9_1_5 (Or.inl ⟨by kernel_rfl, ?hyr9_1_5⟩) (by assumption) ?restr9_1_5
        case hqr9_1_5 => exact fun _ _ _ h => h
        case hyr9_1_5 => (intro w hSw; (try dsimp only at hSw); go_simp; try with_reducible rfl)
        try simp only [Act.put, List.getElem_toArray, List.getElem_cons_succ, List.getElem_cons_zero, List.setIfInBounds_toArray, List.set_cons_zero, List.set_cons_succ]
        refine wpAnyH_take (i := 6) (oi := _) (v := ?vr9_1_6) rfl (by kernel_rfl) (by kernel_rfl) (by kernel_rfl) ?hqr9_1_6 (Or.inl ⟨by kernel_rfl, ?hyr9_1_6⟩) (by assumption) ?restr9_1_6
        case hqr9_1_6 => exact fun _ _ _ h => h
        case hyr9_1_6 => (intro w hSw; (try dsimp only at hSw); go_simp; try with_reducible rfl)
        try simp only [Act.put, List.getElem_toArray, List.getElem_cons_succ, List.getElem_cons_zero, List.setIfInBounds_toArray, List.set_cons_zero, List.set_cons_succ]
        refine wpAnyH_ready (rs := [7]) (by kernel_rfl) (by simp) ?_
        refine AllReadyH.cons (o := _) rfl (fun K hK => ?_) AllReadyH.nil
        go_simp
        (go_at_call 58; refine (HLE.out _).mono ?_; rintro e w6 ⟨rfl, hb6⟩; have hB6 : Bel w5 w6 := Bel.then_ (Bel.refl w5).drew hb6)
        try (go_wp2_with fail)
        refine hK.out _ _ ?_ (fun hHr9_1 => ?_)
        · (try dsimp only); (first | assumption | exact hS _ (Bel.refl w5).drew | exact hS _ hB6 | exact hS _ (hB6.then_ hb7))
        clear hK K hHr9_0
        try simp only [Act.put, List.getElem_toArray, List.getElem_cons_succ, List.getElem_cons_zero, List.setIfInBounds_toArray, List.set_cons_zero, List.set_cons_succ]
        refine wpAnyH_take (i := 8) (oi := _) (v := ?vr9_1_8) rfl (by kernel_rfl) (by kernel_rfl) (by kernel_rfl) ?hqr9_1_8 (Or.inl ⟨by kernel_rfl, ?hyr9_1_8⟩) (by assumption) ?restr9_1_8
        case hqr9_1_8 => exact fun _ _ _ h => h
        case hyr9_1_8 => (intro w hSw; (try dsimp only at hSw); go_simp; try with_reducible rfl)
        try simp only [Act.put, List.getElem_toArray, List.getElem_cons_succ, List.getElem_cons_zero, List.setIfInBounds_toArray, List.set_cons_zero, List.set_cons_succ]
        refine wpAnyH_take (i := 9) (oi := _) (v := ?vr9_1_9) rfl (by kernel_rfl) (by kernel_rfl) (by kernel_rfl) ?hqr9_1_9 (Or.inl ⟨by kernel_rfl, ?hyr9_1_9⟩) (by assumption) ?restr9_1_9
        case hqr9_1_9 => exact fun _ _ _ h => h
        case hyr9_1_9 => (intro w hSw; (try dsimp only at hSw); go_simp; try with_reducible rfl)
        try simp only [Act.put, List.getElem_toArray, List.getElem_cons_succ, List.getElem_cons_zero, List.setIfInBounds_toArray, List.set_cons_zero, List.set_cons_succ]
        refine wpAnyH_take (i := 10) (oi := _) (v := undef) rfl (by kernel_rfl) (by kernel_rfl) (by kernel_rfl) (fun _ _ _ h => h) (Or.inr ⟨by kernel_rfl, rfl⟩) (by assumption) ?restr9_1_10
        try simp only [Act.put, List.getElem_toArray, List.getElem_cons_succ, List.getElem_cons_zero, List.setIfInBounds_toArray, List.set_cons_zero, List.set_cons_succ]
        refine wpAnyH_take (i := 11) (oi := _) (v := undef) rfl (by kernel_rfl) (by kernel_rfl) (by kernel_rfl) (fun _ _ _ h => h) (Or.inr ⟨by kernel_rfl, rfl⟩) (by assumption) ?restr9_1_11
        try simp only [Act.put, List.getElem_toArray, List.getElem_cons_succ, List.getElem_cons_zero, List.setIfInBounds_toArray, List.set_cons_zero, List.set_cons_succ]
        refine wpAnyH_take (i := 12) (oi := _) (v := undef) rfl (by kernel_rfl) (by kernel_rfl) (by kernel_rfl) (fun _ _ _ h => h) (Or.inr ⟨by kernel_rfl, rfl⟩) (by assumption) ?restr9_1_12
        try simp only [Act.put, List.getElem_toArray, List.getElem_cons_succ, List.getElem_cons_zero, List.setIfInBounds_toArray, List.set_cons_zero, List.set_cons_succ]
        refine wpAnyH_take (i := 13) (oi := _) (v := undef) rfl (by kernel_rfl) (by kernel_rfl) (by kernel_rfl) (fun _ _ _ h => h) (Or.inr ⟨by kernel_rfl, rfl⟩) (by assumption) ?restr9_1_13
        try simp only [Act.put, List.getElem_toArray, List.getElem_cons_succ, List.getElem_cons_zero, List.setIfInBounds_toArray, List.set_cons_zero, List.set_cons_succ]
        refine wpAnyH_take (i := 14) (oi := _) (v := undef) rfl (by kernel_rfl) (by kernel_rfl) (by kernel_rfl) (fun _ _ _ h => h) (Or.inr ⟨by kernel_rfl, rfl⟩) (by assumption) ?restr9_1_14
        try simp only [Act.put, List.getElem_toArray, List.getElem_cons_succ, List.getElem_cons_zero, List.setIfInBounds_toArray, List.set_cons_zero, List.set_cons_succ]
        refine wpAnyH_take (i := 15) (oi := _) (v := undef) rfl (by kernel_rfl) (by kernel_rfl) (by kernel_rfl) (fun _ _ _ h => h) (Or.inr ⟨by kernel_rfl, rfl⟩) (by assumption) ?restr9_1_15
        try simp only [Act.put, List.getElem_toArray, List.getElem_cons_succ, List.getElem_cons_zero, List.setIfInBounds_toArray, List.set_cons_zero, List.set_cons_succ]
        refine wpAnyH_take (i := 16) (oi := _) (v := undef) rfl (by kernel_rfl) (by kernel_rfl) (by kernel_rfl) (fun _ _ _ h => h) (Or.inr ⟨by kernel_rfl, rfl⟩) (by assumption) ?restr9_1_16
        try simp only [Act.put, List.getElem_toArray, List.getElem_cons_succ, List.getElem_cons_zero, List.setIfInBounds_toArray, List.set_cons_zero, List.set_cons_succ]
        refine wpAnyH_take (i := 17) (oi := _) (v := undef) rfl (by kernel_rfl) (by kernel_rfl) (by kernel_rfl) (fun _ _ _ h => h) (Or.inr ⟨by kernel_rfl, rfl⟩) (by assumption) ?restr9_1_17
        try simp only [Act.put, List.getElem_toArray, List.getElem_cons_succ, List.getElem_cons_zero, List.setIfInBounds_toArray, List.set_cons_zero, List.set_cons_succ]
        refine wpAnyH_take (i := 18) (oi := _) (v := ?vr9_1_18) rfl (by kernel_rfl) (by kernel_rfl) (by kernel_rfl) ?hqr9_1_18 (Or.inl ⟨by kernel_rfl, ?hyr9_1_18⟩) (by assumption) ?restr9_1_18
        case hqr9_1_18 => exact fun _ _ _ h => h
        case hyr9_1_18 => (intro w hSw; (try dsimp only at hSw); go_simp; try with_reducible rfl)
        try simp only [Act.put, List.getElem_toArray, List.getElem_cons_succ, List.getElem_cons_zero, List.setIfInBounds_toArray, List.set_cons_zero, List.set_cons_succ]
        refine wpAnyH_take (i := 19) (oi := _) (v := ?vr9_1_19) rfl (by kernel_rfl) (by kernel_rfl) (by kernel_rfl) ?hqr9_1_19 (Or.inl ⟨by kernel_rfl, ?hyr9_1_19⟩) (by assumption) ?restr9_1_19
        case hqr9_1_19 => exact fun _ _ _ h => h
        case hyr9_1_19 => (intro w hSw; (try dsimp only at hSw); go_simp; try with_reducible rfl)
        try simp only [Act.put, List.getElem_toArray, List.getElem_cons_succ, List.getElem_cons_zero, List.setIfInBounds_toArray, List.set_cons_zero, List.set_cons_succ]
        refine wpAnyH_take (i := 20) (oi := _) (v := ?vr9_1_20) rfl (by kernel_rfl) (by kernel_rfl) (by kernel_rfl) ?hqr9_1_20 (Or.inl ⟨by kernel_rfl, ?hyr9_1_20⟩) (by assumption) ?restr9_1_20
        case hqr9_1_20 => exact fun _ _ _ h => h
        case hyr9_1_20 => (intro w hSw; (try dsimp only at hSw); go_simp; try with_reducible rfl)
        try simp only [Act.put, List.getElem_toArray, List.getElem_cons_succ, List.getElem_cons_zero, List.setIfInBounds_toArray, List.set_cons_zero, List.set_cons_succ]
        refine wpAnyH_done (by kernel_rfl) ?_ _
        refine NoPanic.normal ?_
        go_wp2
        go_ret
        exact ⟨by rw [hR2]; rfl, hB5.then_ (by assumption : _ ∧ _ ∧ _ ∧ Bel w5 _).2.2.2⟩
      · have hlb : decide (n < -2147483648) = false := by simp; omega
        by_cases hu : 2147483647 < n
        · have hR2 : R = 133 := by rw [HR1.out, if_neg (by omega)]
          refine wp_region_noPanic ?_
          refine wp_region_held_drew (S := (fun V : World => V.cell? ⟨w.heap.size, 2, none⟩ = some (.int .i64 4) ∧ V.cell? ⟨w.heap.size + 1, 1, none⟩ = some (.int .i64 n) ∧ V.cell? ⟨w.heap.size + 1, 2, none⟩ = some (.int .u64 u) ∧ Bel w5 V)) (by kernel_rfl) ?_ (fun hHr10_0 => ?_)
          · (try dsimp only); (first | assumption | exact hS _ (Bel.refl w5).drew | exact hS _ hB6 | exact hS _ (hB6.then_ hb7))
          refine wpAnyH_take (i := 0) (oi := _) (v := ?vr10_1_0) rfl (by kernel_rfl) (by kernel_rfl) (by kernel_rfl) ?hqr10_1_0 (Or.inl ⟨by kernel_rfl, ?hyr10_1_0⟩) (by assumption) ?restr10_1_0
          case hqr10_1_0 => exact fun _ _ _ h => h
          case hyr10_1_0 => (intro w hSw; (try dsimp only at hSw); go_simp; try with_reducible rfl)
          try simp only [Act.put, List.getElem_toArray, List.getElem_cons_succ, List.getElem_cons_zero, List.setIfInBounds_toArray, List.set_cons_zero, List.set_cons_succ]
          refine wpAnyH_take (i := 1) (oi := _) (v := ?vr10_1_1) rfl (by kernel_rfl) (by kernel_rfl) (by kernel_rfl) ?hqr10_1_1 (Or.inl ⟨by kernel_rfl, ?hyr10_1_1⟩) (by assumption) ?restr10_1_1
          case hqr10_1_1 => exact fun _ _ _ h => h
          case hyr10_1_1 => (intro w hSw; (try dsimp only at hSw); go_simp; try with_reducible rfl)
          try simp only [Act.put, List.getElem_toArray, List.getElem_cons_succ, List.getElem_cons_zero, List.setIfInBounds_toArray, List.set_cons_zero, List.set_cons_succ]
          refine wpAnyH_take (i := 2) (oi := _) (v := ?vr10_1_2) rfl (by kernel_rfl) (by kernel_rfl) (by kernel_rfl) ?hqr10_1_2 (Or.inl ⟨by kernel_rfl, ?hyr10_1_2⟩) (by assumption) ?restr10_1_2
          case hqr10_1_2 => exact fun _ _ _ h => h
          case hyr10_1_2 => (intro w hSw; (try dsimp only at hSw); go_simp; try with_reducible rfl)
          try simp only [Act.put, List.getElem_toArray, List.getElem_cons_succ, List.getElem_cons_zero, List.setIfInBounds_toArray, List.set_cons_zero, List.set_cons_succ]
          refine wpAnyH_take (i := 3) (oi := _) (v := ?vr10_1_3) rfl (by kernel_rfl) (by kernel_rfl) (by kernel_rfl) ?hqr10_1_3 (Or.inl ⟨by kernel_rfl, ?hyr10_1_3⟩) (by assumption) ?restr10_1_3
          case hqr10_1_3 => exact fun _ _ _ h => h
          case hyr10_1_3 => (intro w hSw; (try dsimp only at hSw); go_simp; try with_reducible rfl)
          try simp only [Act.put, List.getElem_toArray, List.getElem_cons_succ, List.getElem_cons_zero, List.setIfInBounds_toArray, List.set_cons_zero, List.set_cons_succ]
          refine wpAnyH_take (i := 4) (oi := _) (v := ?vr10_1_4) rfl (by kernel_rfl) (by kernel_rfl) (by kernel_rfl) ?hqr10_1_4 (Or.inl ⟨by kernel_rfl, ?hyr10_1_4⟩) (by assumption) ?restr10_1_4
          case hqr10_1_4 => exact fun _ _ _ h => h
          case hyr10_1_4 => (intro w hSw; (try dsimp only at hSw); go_simp; try with_reducible rfl)
          try simp only [Act.put, List.getElem_toArray, List.getElem_cons_succ, List.getElem_cons_zero, List.setIfInBounds_toArray, List.set_cons_zero, List.set_cons_succ]
          refine wpAnyH_take (i := 5) (oi := _) (v := ?vr10_1_5) rfl (by kernel_rfl) (by kernel_rfl) (by kernel_rfl) ?hqr10_1_5 (Or.inl ⟨by kernel_rfl, ?hyr10_1_5⟩) (by assumption) ?restr10_1_5
          case hqr10_1_5 => exact fun _ _ _ h => h
          case hyr10_1_5 => (intro w hSw; (try dsimp only at hSw); go_simp; try with_reducible rfl)
          try simp only [Act.put, List.getElem_toArray, List.getElem_cons_succ, List.getElem_cons_zero, List.setIfInBounds_toArray, List.set_cons_zero, List.set_cons_succ]
          refine wpAnyH_take (i := 6) (oi := _) (v := ?vr10_1_6) rfl (by kernel_rfl) (by kernel_rfl) (by kernel_rfl) ?hqr10_1_6 (Or.inl ⟨by kernel_rfl, ?hyr10_1_6⟩) (by assumption) ?restr10_1_6
          case hqr10_1_6 => exact fun _ _ _ h => h
          case hyr10_1_6 => (intro w hSw; (try dsimp only at hSw); go_simp; try with_reducible rfl)
          try simp only [Act.put, List.getElem_toArray, List.getElem_cons_succ, List.getElem_cons_zero, List.setIfInBounds_toArray, List.set_cons_zero, List.set_cons_succ]
          refine wpAnyH_ready (rs := [7]) (by kernel_rfl) (by simp) ?_
          refine AllReadyH.cons (o := _) rfl (fun K hK => ?_) AllReadyH.nil
          go_simp
          (go_at_call 58; refine (HLE.out _).mono ?_; rintro e w6 ⟨rfl, hb6⟩; have hB6 : Bel w5 w6 := Bel.then_ (Bel.refl w5).drew hb6)
          try (go_wp2_with fail)
          refine hK.out _ _ ?_ (fun hHr10_1 => ?_)
          · (try dsimp only); (first | assumption | exact hS _ (Bel.refl w5).drew | exact hS _ hB6 | exact hS _ (hB6.then_ hb7))
          clear hK K hHr10_0
          try simp only [Act.put, List.getElem_toArray, List.getElem_cons_succ, List.getElem_cons_zero, List.setIfInBounds_toArray, List.set_cons_zero, List.set_cons_succ]
          refine wpAnyH_take (i := 8) (oi := _) (v := ?vr10_1_8) rfl (by kernel_rfl) (by kernel_rfl) (by kernel_rfl) ?hqr10_1_8 (Or.inl ⟨by kernel_rfl, ?hyr10_1_8⟩) (by assumption) ?restr10_1_8
          case hqr10_1_8 => exact fun _ _ _ h => h
          case hyr10_1_8 => (intro w hSw; (try dsimp only at hSw); go_simp; try with_reducible rfl)
          try simp only [Act.put, List.getElem_toArray, List.getElem_cons_succ, List.getElem_cons_zero, List.setIfInBounds_toArray, List.set_cons_zero, List.set_cons_succ]
          refine wpAnyH_take (i := 9) (oi := _) (v := ?vr10_1_9) rfl (by kernel_rfl) (by kernel_rfl) (by kernel_rfl) ?hqr10_1_9 (Or.inl ⟨by kernel_rfl, ?hyr10_1_9⟩) (by assumption) ?restr10_1_9
          case hqr10_1_9 => exact fun _ _ _ h => h
          case hyr10_1_9 => (intro w hSw; (try dsimp only at hSw); go_simp; try with_reducible rfl)
          try simp only [Act.put, List.getElem_toArray, List.getElem_cons_succ, List.getElem_cons_zero, List.setIfInBounds_toArray, List.set_cons_zero, List.set_cons_succ]
          refine wpAnyH_take (i := 10) (oi := _) (v := ?vr10_1_10) rfl (by kernel_rfl) (by kernel_rfl) (by kernel_rfl) ?hqr10_1_10 (Or.inl ⟨by kernel_rfl, ?hyr10_1_10⟩) (by assumption) ?restr10_1_10
          case hqr10_1_10 => exact fun _ _ _ h => h
          case hyr10_1_10 => (intro w hSw; (try dsimp only at hSw); go_simp; try with_reducible rfl)
          try simp only [Act.put, List.getElem_toArray, List.getElem_cons_succ, List.getElem_cons_zero, List.setIfInBounds_toArray, List.set_cons_zero, List.set_cons_succ]
          refine wpAnyH_take (i := 11) (oi := _) (v := ?vr10_1_11) rfl (by kernel_rfl) (by kernel_rfl) (by kernel_rfl) ?hqr10_1_11 (Or.inl ⟨by kernel_rfl, ?hyr10_1_11⟩) (by assumption) ?restr10_1_11
          case hqr10_1_11 => exact fun _ _ _ h => h
          case hyr10_1_11 => (intro w hSw; (try dsimp only at hSw); go_simp; try with_reducible rfl)
          try simp only [Act.put, List.getElem_toArray, List.getElem_cons_succ, List.getElem_cons_zero, List.setIfInBounds_toArray, List.set_cons_zero, List.set_cons_succ]
          refine wpAnyH_take (i := 12) (oi := _) (v := ?vr10_1_12) rfl (by kernel_rfl) (by kernel_rfl) (by kernel_rfl) ?hqr10_1_12 (Or.inl ⟨by kernel_rfl, ?hyr10_1_12⟩) (by assumption) ?restr10_1_12
          case hqr10_1_12 => exact fun _ _ _ h => h
          case hyr10_1_12 => (intro w hSw; (try dsimp only at hSw); go_simp; try with_reducible rfl)
          try simp only [Act.put, List.getElem_toArray, List.getElem_cons_succ, List.getElem_cons_zero, List.setIfInBounds_toArray, List.set_cons_zero, List.set_cons_succ]
          refine wpAnyH_take (i := 13) (oi := _) (v := ?vr10_1_13) rfl (by kernel_rfl) (by kernel_rfl) (by kernel_rfl) ?hqr10_1_13 (Or.inl ⟨by kernel_rfl, ?hyr10_1_13⟩) (by assumption) ?restr10_1_13
          case hqr10_1_13 => exact fun _ _ _ h => h
          case hyr10_1_13 => (intro w hSw; (try dsimp only at hSw); go_simp; try with_reducible rfl)
          try simp only [Act.put, List.getElem_toArray, List.getElem_cons_succ, List.getElem_cons_zero, List.setIfInBounds_toArray, List.set_cons_zero, List.set_cons_succ]
          refine wpAnyH_ready (rs := [14]) (by kernel_rfl) (by simp) ?_
          refine AllReadyH.cons (o := _) rfl (fun K hK => ?_) AllReadyH.nil
          go_simp
          (go_at_call 58; refine (HLE.out _).mono ?_; rintro e w7 ⟨rfl, hb7⟩)
          try (go_wp2_with fail)
          refine hK.out _ _ ?_ (fun hHr10_2 => ?_)
          · (try dsimp only); (first | assumption | exact hS _ (Bel.refl w5).drew | exact hS _ hB6 | exact hS _ (hB6.then_ hb7))
          clear hK K hHr10_1
          try simp only [Act.put, List.getElem_toArray, List.getElem_cons_succ, List.getElem_cons_zero, List.setIfInBounds_toArray, List.set_cons_zero, List.set_cons_succ]
          refine wpAnyH_take (i := 15) (oi := _) (v := ?vr10_1_15) rfl (by kernel_rfl) (by kernel_rfl) (by kernel_rfl) ?hqr10_1_15 (Or.inl ⟨by kernel_rfl, ?hyr10_1_15⟩) (by assumption) ?restr10_1_15
          case hqr10_1_15 => exact fun _ _ _ h => h
          case hyr10_1_15 => (intro w hSw; (try dsimp only at hSw); go_simp; try with_reducible rfl)
          try simp only [Act.put, List.getElem_toArray, List.getElem_cons_succ, List.getElem_cons_zero, List.setIfInBounds_toArray, List.set_cons_zero, List.set_cons_succ]
          refine wpAnyH_take (i := 16) (oi := _) (v := ?vr10_1_16) rfl (by kernel_rfl) (by kernel_rfl) (by kernel_rfl) ?hqr10_1_16 (Or.inl ⟨by kernel_rfl, ?hyr10_1_16⟩) (by assumption) ?restr10_1_16
          case hqr10_1_16 => exact fun _ _ _ h => h
          case hyr10_1_16 => (intro w hSw; (try dsimp only at hSw); go_simp; try with_reducible rfl)
          try simp only [Act.put, List.getElem_toArray, List.getElem_cons_succ, List.getElem_cons_zero, List.setIfInBounds_toArray, List.set_cons_zero, List.set_cons_succ]
          refine wpAnyH_take (i := 17) (oi := _) (v := ?vr10_1_17) rfl (by kernel_rfl) (by kernel_rfl) (by kernel_rfl) ?hqr10_1_17 (Or.inl ⟨by kernel_rfl, ?hyr10_1_17⟩) (by assumption) ?restr10_1_17
          case hqr10_1_17 => exact fun _ _ _ h => h
          case hyr10_1_17 => (intro w hSw; (try dsimp only at hSw); go_simp; try with_reducible rfl)
          try simp only [Act.put, List.getElem_toArray, List.getElem_cons_succ, List.getElem_cons_zero, List.setIfInBounds_toArray, List.set_cons_zero, List.set_cons_succ]
          refine wpAnyH_take (i := 18) (oi := _) (v := ?vr10_1_18) rfl (by kernel_rfl) (by kernel_rfl) (by kernel_rfl) ?hqr10_1_18 (Or.inl ⟨by kernel_rfl, ?hyr10_1_18⟩) (by assumption) ?restr10_1_18
          case hqr10_1_18 => exact fun _ _ _ h => h
          case hyr10_1_18 => (intro w hSw; (try dsimp only at hSw); go_simp; try with_reducible rfl)
          try simp only [Act.put, List.getElem_toArray, List.getElem_cons_succ, List.getElem_cons_zero, List.setIfInBounds_toArray, List.set_cons_zero, List.set_cons_succ]
          refine wpAnyH_take (i := 19) (oi := _) (v := ?vr10_1_19) rfl (by kernel_rfl) (by kernel_rfl) (by kernel_rfl) ?hqr10_1_19 (Or.inl ⟨by kernel_rfl, ?hyr10_1_19⟩) (by assumption) ?restr10_1_19
          case hqr10_1_19 => exact fun _ _ _ h => h
          case hyr10_1_19 => (intro w hSw; (try dsimp only at hSw); go_simp; try with_reducible rfl)
          try simp only [Act.put, List.getElem_toArray, List.getElem_cons_succ, List.getElem_cons_zero, List.setIfInBounds_toArray, List.set_cons_zero, List.set_cons_succ]
          refine wpAnyH_take (i := 20) (oi := _) (v := ?vr10_1_20) rfl (by kernel_rfl) (by kernel_rfl) (by kernel_rfl) ?hqr10_1_20 (Or.inl ⟨by kernel_rfl, ?hyr10_1_20⟩) (by assumption) ?restr10_1_20
          case hqr10_1_20 => exact fun _ _ _ h => h
          case hyr10_1_20 => (intro w hSw; (try dsimp only at hSw); go_simp; try with_reducible rfl)
          try simp only [Act.put, List.getElem_toArray, List.getElem_cons_succ, List.getElem_cons_zero, List.setIfInBounds_toArray, List.set_cons_zero, List.set_cons_succ]
          refine wpAnyH_done (by kernel_rfl) ?_ _
          refine NoPanic.normal ?_
          go_wp2
          go_ret
          exact ⟨by rw [hR2]; rfl, hB5.then_ (by assumption : _ ∧ _ ∧ _ ∧ Bel w5 _).2.2.2⟩
        · have hub : decide (2147483647 < n) = false := by simp; omega
          have hR2 : R = 0 := by rw [HR1.out, if_pos (by omega)]
          refine wp_region_noPanic ?_
          refine wp_region_held_drew (S := (fun V : World => V.cell? ⟨w.heap.size, 2, none⟩ = some (.int .i64 4) ∧ V.cell? ⟨w.heap.size + 1, 1, none⟩ = some (.int .i64 n) ∧ V.cell? ⟨w.heap.size + 1, 2, none⟩ = some (.int .u64 u) ∧ Bel w5 V)) (by kernel_rfl) ?_ (fun hHr11_0 => ?_)
          · (try dsimp only); (first | assumption | exact hS _ (Bel.refl w5).drew | exact hS _ hB6 | exact hS _ (hB6.then_ hb7))
          refine wpAnyH_take (i := 0) (oi := _) (v := ?vr11_1_0) rfl (by kernel_rfl) (by kernel_rfl) (by kernel_rfl) ?hqr11_1_0 (Or.inl ⟨by kernel_rfl, ?hyr11_1_0⟩) (by assumption) ?restr11_1_0
          case hqr11_1_0 => exact fun _ _ _ h => h
          case hyr11_1_0 => (intro w hSw; (try dsimp only at hSw); go_simp; try with_reducible rfl)
          try simp only [Act.put, List.getElem_toArray, List.getElem_cons_succ, List.getElem_cons_zero, List.setIfInBounds_toArray, List.set_cons_zero, List.set_cons_succ]
          refine wpAnyH_take (i := 1) (oi := _) (v := ?vr11_1_1) rfl (by kernel_rfl) (by kernel_rfl) (by kernel_rfl) ?hqr11_1_1 (Or.inl ⟨by kernel_rfl, ?hyr11_1_1⟩) (by assumption) ?restr11_1_1
          case hqr11_1_1 => exact fun _ _ _ h => h
          case hyr11_1_1 => (intro w hSw; (try dsimp only at hSw); go_simp; try with_reducible rfl)
          try simp only [Act.put, List.getElem_toArray, List.getElem_cons_succ, List.getElem_cons_zero, List.setIfInBounds_toArray, List.set_cons_zero, List.set_cons_succ]
          refine wpAnyH_take (i := 2) (oi := _) (v := ?vr11_1_2) rfl (by kernel_rfl) (by kernel_rfl) (by kernel_rfl) ?hqr11_1_2 (Or.inl ⟨by kernel_rfl, ?hyr11_1_2⟩) (by assumption) ?restr11_1_2
          case hqr11_1_2 => exact fun _ _ _ h => h
          case hyr11_1_2 => (intro w hSw; (try dsimp only at hSw); go_simp; try with_reducible rfl)
          try simp only [Act.put, List.getElem_toArray, List.getElem_cons_succ, List.getElem_cons_zero, List.setIfInBounds_toArray, List.set_cons_zero, List.set_cons_succ]
          refine wpAnyH_take (i := 3) (oi := _) (v := ?vr11_1_3) rfl (by kernel_rfl) (by kernel_rfl) (by kernel_rfl) ?hqr11_1_3 (Or.inl ⟨by kernel_rfl, ?hyr11_1_3⟩) (by assumption) ?restr11_1_3
          case hqr11_1_3 => exact fun _ _ _ h => h
          case hyr11_1_3 => (intro w hSw; (try dsimp only at hSw); go_simp; try with_reducible rfl)
          try simp only [Act.put, List.getElem_toArray, List.getElem_cons_succ, List.getElem_cons_zero, List.setIfInBounds_toArray, List.set_cons_zero, List.set_cons_succ]
          refine wpAnyH_take (i := 4) (oi := _) (v := ?vr11_1_4) rfl (by kernel_rfl) (by kernel_rfl) (by kernel_rfl) ?hqr11_1_4 (Or.inl ⟨by kernel_rfl, ?hyr11_1_4⟩) (by assumption) ?restr11_1_4
          case hqr11_1_4 => exact fun _ _ _ h => h
          case hyr11_1_4 => (intro w hSw; (try dsimp only at hSw); go_simp; try with_reducible rfl)
          try simp only [Act.put, List.getElem_toArray, List.getElem_cons_succ, List.getElem_cons_zero, List.setIfInBounds_toArray, List.set_cons_zero, List.set_cons_succ]
          refine wpAnyH_take (i := 5) (oi := _) (v := ?vr11_1_5) rfl (by kernel_rfl) (by kernel_rfl) (by kernel_rfl) ?hqr11_1_5 (Or.inl ⟨by kernel_rfl, ?hyr11_1_5⟩) (by assumption) ?restr11_1_5
          case hqr11_1_5 => exact fun _ _ _ h => h
          case hyr11_1_5 => (intro w hSw; (try dsimp only at hSw); go_simp; try with_reducible rfl)
          try simp only [Act.put, List.getElem_toArray, List.getElem_cons_succ, List.getElem_cons_zero, List.setIfInBounds_toArray, List.set_cons_zero, List.set_cons_succ]
          refine wpAnyH_take (i := 6) (oi := _) (v := ?vr11_1_6) rfl (by kernel_rfl) (by kernel_rfl) (by kernel_rfl) ?hqr11_1_6 (Or.inl ⟨by kernel_rfl, ?hyr11_1_6⟩) (by assumption) ?restr11_1_6
          case hqr11_1_6 => exact fun _ _ _ h => h
          case hyr11_1_6 => (intro w hSw; (try dsimp only at hSw); go_simp; try with_reducible rfl)
          try simp only [Act.put, List.getElem_toArray, List.getElem_cons_succ, List.getElem_cons_zero, List.setIfInBounds_toArray, List.set_cons_zero, List.set_cons_succ]
          refine wpAnyH_ready (rs := [7]) (by kernel_rfl) (by simp) ?_
          refine AllReadyH.cons (o := _) rfl (fun K hK => ?_) AllReadyH.nil
          go_simp
          (go_at_call 58; refine (HLE.out _).mono ?_; rintro e w6 ⟨rfl, hb6⟩; have hB6 : Bel w5 w6 := Bel.then_ (Bel.refl w5).drew hb6)
          try (go_wp2_with fail)
          refine hK.out _ _ ?_ (fun hHr11_1 => ?_)
          · (try dsimp only); (first | assumption | exact hS _ (Bel.refl w5).drew | exact hS _ hB6 | exact hS _ (hB6.then_ hb7))
          clear hK K hHr11_0
          try simp only [Act.put, List.getElem_toArray, List.getElem_cons_succ, List.getElem_cons_zero, List.setIfInBounds_toArray, List.set_cons_zero, List.set_cons_succ]
          refine wpAnyH_take (i := 8) (oi := _) (v := ?vr11_1_8) rfl (by kernel_rfl) (by kernel_rfl) (by kernel_rfl) ?hqr11_1_8 (Or.inl ⟨by kernel_rfl, ?hyr11_1_8⟩) (by assumption) ?restr11_1_8
          case hqr11_1_8 => exact fun _ _ _ h => h
          case hyr11_1_8 => (intro w hSw; (try dsimp only at hSw); go_simp; try with_reducible rfl)
          try simp only [Act.put, List.getElem_toArray, List.getElem_cons_succ, List.getElem_cons_zero, List.setIfInBounds_toArray, List.set_cons_zero, List.set_cons_succ]
          refine wpAnyH_take (i := 9) (oi := _) (v := ?vr11_1_9) rfl (by kernel_rfl) (by kernel_rfl) (by kernel_rfl) ?hqr11_1_9 (Or.inl ⟨by kernel_rfl, ?hyr11_1_9⟩) (by assumption) ?restr11_1_9
          case hqr11_1_9 => exact fun _ _ _ h => h
          case hyr11_1_9 => (intro w hSw; (try dsimp only at hSw); go_simp; try with_reducible rfl)
          try simp only [Act.put, List.getElem_toArray, List.getElem_cons_succ, List.getElem_cons_zero, List.setIfInBounds_toArray, List.set_cons_zero, List.set_cons_succ]
          refine wpAnyH_take (i := 10) (oi := _) (v := ?vr11_1_10) rfl (by kernel_rfl) (by kernel_rfl) (by kernel_rfl) ?hqr11_1_10 (Or.inl ⟨by kernel_rfl, ?hyr11_1_10⟩) (by assumption) ?restr11_1_10
          case hqr11_1_10 => exact fun _ _ _ h => h
          case hyr11_1_10 => (intro w hSw; (try dsimp only at hSw); go_simp; try with_reducible rfl)
          try simp only [Act.put, List.getElem_toArray, List.getElem_cons_succ, List.getElem_cons_zero, List.setIfInBounds_toArray, List.set_cons_zero, List.set_cons_succ]
          refine wpAnyH_take (i := 11) (oi := _) (v := ?vr11_1_11) rfl (by kernel_rfl) (by kernel_rfl) (by kernel_rfl) ?hqr11_1_11 (Or.inl ⟨by kernel_rfl, ?hyr11_1_11⟩) (by assumption) ?restr11_1_11
          case hqr11_1_11 => exact fun _ _ _ h => h
          case hyr11_1_11 => (intro w hSw; (try dsimp only at hSw); go_simp; try with_reducible rfl)
          try simp only [Act.put, List.getElem_toArray, List.getElem_cons_succ, List.getElem_cons_zero, List.setIfInBounds_toArray, List.set_cons_zero, List.set_cons_succ]
          refine wpAnyH_take (i := 12) (oi := _) (v := ?vr11_1_12) rfl (by kernel_rfl) (by kernel_rfl) (by kernel_rfl) ?hqr11_1_12 (Or.inl ⟨by kernel_rfl, ?hyr11_1_12⟩) (by assumption) ?restr11_1_12
          case hqr11_1_12 => exact fun _ _ _ h => h
          case hyr11_1_12 => (intro w hSw; (try dsimp only at hSw); go_simp; try with_reducible rfl)
          try simp only [Act.put, List.getElem_toArray, List.getElem_cons_succ, List.getElem_cons_zero, List.setIfInBounds_toArray, List.set_cons_zero, List.set_cons_succ]
          refine wpAnyH_take (i := 13) (oi := _) (v := ?vr11_1_13) rfl (by kernel_rfl) (by kernel_rfl) (by kernel_rfl) ?hqr11_1_13 (Or.inl ⟨by kernel_rfl, ?hyr11_1_13⟩) (by assumption) ?restr11_1_13
          case hqr11_1_13 => exact fun _ _ _ h => h
          case hyr11_1_13 => (intro w hSw; (try dsimp only at hSw); go_simp; try with_reducible rfl)
          try simp only [Act.put, List.getElem_toArray, List.getElem_cons_succ, List.getElem_cons_zero, List.setIfInBounds_toArray, List.set_cons_zero, List.set_cons_succ]
          refine wpAnyH_ready (rs := [14]) (by kernel_rfl) (by simp) ?_
          refine AllReadyH.cons (o := _) rfl (fun K hK => ?_) AllReadyH.nil
          go_simp
          (go_at_call 58; refine (HLE.out _).mono ?_; rintro e w7 ⟨rfl, hb7⟩)
          try (go_wp2_with fail)
          refine hK.out _ _ ?_ (fun hHr11_2 => ?_)
          · (try dsimp only); (first | assumption | exact hS _ (Bel.refl w5).drew | exact hS _ hB6 | exact hS _ (hB6.then_ hb7))
          clear hK K hHr11_1
          try simp only [Act.put, List.getElem_toArray, List.getElem_cons_succ, List.getElem_cons_zero, List.setIfInBounds_toArray, List.set_cons_zero, List.set_cons_succ]
          refine wpAnyH_take (i := 15) (oi := _) (v := ?vr11_1_15) rfl (by kernel_rfl) (by kernel_rfl) (by kernel_rfl) ?hqr11_1_15 (Or.inl ⟨by kernel_rfl, ?hyr11_1_15⟩) (by assumption) ?restr11_1_15
          case hqr11_1_15 => exact fun _ _ _ h => h
          case hyr11_1_15 => (intro w hSw; (try dsimp only at hSw); go_simp; try with_reducible rfl)
          try simp only [Act.put, List.getElem_toArray, List.getElem_cons_succ, List.getElem_cons_zero, List.setIfInBounds_toArray, List.set_cons_zero, List.set_cons_succ]
          refine wpAnyH_take (i := 16) (oi := _) (v := ?vr11_1_16) rfl (by kernel_rfl) (by kernel_rfl) (by kernel_rfl) ?hqr11_1_16 (Or.inl ⟨by kernel_rfl, ?hyr11_1_16⟩) (by assumption) ?restr11_1_16
          case hqr11_1_16 => exact fun _ _ _ h => h
          case hyr11_1_16 => (intro w hSw; (try dsimp only at hSw); go_simp; try with_reducible rfl)
          try simp only [Act.put, List.getElem_toArray, List.getElem_cons_succ, List.getElem_cons_zero, List.setIfInBounds_toArray, List.set_cons_zero, List.set_cons_succ]
          refine wpAnyH_take (i := 17) (oi := _) (v := ?vr11_1_17) rfl (by kernel_rfl) (by kernel_rfl) (by kernel_rfl) ?hqr11_1_17 (Or.inl ⟨by kernel_rfl, ?hyr11_1_17⟩) (by assumption) ?restr11_1_17
          case hqr11_1_17 => exact fun _ _ _ h => h
          case hyr11_1_17 => (intro w hSw; (try dsimp only at hSw); go_simp; try with_reducible rfl)
          try simp only [Act.put, List.getElem_toArray, List.getElem_cons_succ, List.getElem_cons_zero, List.setIfInBounds_toArray, List.set_cons_zero, List.set_cons_succ]
          refine wpAnyH_take (i := 18) (oi := _) (v := ?vr11_1_18) rfl (by kernel_rfl) (by kernel_rfl) (by kernel_rfl) ?hqr11_1_18 (Or.inl ⟨by kernel_rfl, ?hyr11_1_18⟩) (by assumption) ?restr11_1_18
          case hqr11_1_18 => exact fun _ _ _ h => h
          case hyr11_1_18 => (intro w hSw; (try dsimp only at hSw); go_simp; try with_reducible rfl)
          try simp only [Act.put, List.getElem_toArray, List.getElem_cons_succ, List.getElem_cons_zero, List.setIfInBounds_toArray, List.set_cons_zero, List.set_cons_succ]
          refine wpAnyH_take (i := 19) (oi := _) (v := ?vr11_1_19) rfl (by kernel_rfl) (by kernel_rfl) (by kernel_rfl) ?hqr11_1_19 (Or.inl ⟨by kernel_rfl, ?hyr11_1_19⟩) (by assumption) ?restr11_1_19
          case hqr11_1_19 => exact fun _ _ _ h => h
          case hyr11_1_19 => (intro w hSw; (try dsimp only at hSw); go_simp; try with_reducible rfl)
          try simp only [Act.put, List.getElem_toArray, List.getElem_cons_succ, List.getElem_cons_zero, List.setIfInBounds_toArray, List.set_cons_zero, List.set_cons_succ]
          refine wpAnyH_take (i := 20) (oi := _) (v := ?vr11_1_20) rfl (by kernel_rfl) (by kernel_rfl) (by kernel_rfl) ?hqr11_1_20 (Or.inl ⟨by kernel_rfl, ?hyr11_1_20⟩) (by assumption) ?restr11_1_20
          case hqr11_1_20 => exact fun _ _ _ h => h
          case hyr11_1_20 => (intro w hSw; (try dsimp only at hSw); go_simp; try with_reducible rfl)
          try simp only [Act.put, List.getElem_toArray, List.getElem_cons_succ, List.getElem_cons_zero, List.setIfInBounds_toArray, List.set_cons_zero, List.set_cons_succ]
          refine wpAnyH_done (by kernel_rfl) ?_ _
          refine NoPanic.normal ?_
          have hB7 := (by assumption : _ ∧ _ ∧ _ ∧ Bel w5 _).2.2.2
          go_wp2
          refine wp_region_noPanic ?_
          refine wp_region_held_drew (S := (fun V : World => Bel w5 V)) (by kernel_rfl) ?_ (fun hHr12_0 => ?_)
          · (try dsimp only); (first | assumption | exact hB7.drew)
          refine wpAnyH_take (i := 0) (oi := _) (v := ?vr12_1_0) rfl (by kernel_rfl) (by kernel_rfl) (by kernel_rfl) ?hqr12_1_0 (Or.inl ⟨by kernel_rfl, ?hyr12_1_0⟩) (by assumption) ?restr12_1_0
          case hqr12_1_0 => exact fun _ _ _ h => h
          case hyr12_1_0 => (intro w hSw; (try dsimp only at hSw); go_simp; try with_reducible rfl)
          try simp only [Act.put, List.getElem_toArray, List.getElem_cons_succ, List.getElem_cons_zero, List.setIfInBounds_toArray, List.set_cons_zero, List.set_cons_succ]
          refine wpAnyH_take (i := 1) (oi := _) (v := ?vr12_1_1) rfl (by kernel_rfl) (by kernel_rfl) (by kernel_rfl) ?hqr12_1_1 (Or.inl ⟨by kernel_rfl, ?hyr12_1_1⟩) (by assumption) ?restr12_1_1
          case hqr12_1_1 => exact fun _ _ _ h => h
          case hyr12_1_1 => (intro w hSw; (try dsimp only at hSw); go_simp; try with_reducible rfl)
          try simp only [Act.put, List.getElem_toArray, List.getElem_cons_succ, List.getElem_cons_zero, List.setIfInBounds_toArray, List.set_cons_zero, List.set_cons_succ]
          refine wpAnyH_take (i := 2) (oi := _) (v := ?vr12_1_2) rfl (by kernel_rfl) (by kernel_rfl) (by kernel_rfl) ?hqr12_1_2 (Or.inl ⟨by kernel_rfl, ?hyr12_1_2⟩) (by assumption) ?restr12_1_2
          case hqr12_1_2 => exact fun _ _ _ h => h
          case hyr12_1_2 => (intro w hSw; (try dsimp only at hSw); go_simp; try with_reducible rfl)
          try simp only [Act.put, List.getElem_toArray, List.getElem_cons_succ, List.getElem_cons_zero, List.setIfInBounds_toArray, List.set_cons_zero, List.set_cons_succ]
          refine wpAnyH_take (i := 3) (oi := _) (v := undef) rfl (by kernel_rfl) (by kernel_rfl) (by kernel_rfl) (fun _ _ _ h => h) (Or.inr ⟨by kernel_rfl, rfl⟩) (by assumption) ?restr12_1_3
          try simp only [Act.put, List.getElem_toArray, List.getElem_cons_succ, List.getElem_cons_zero, List.setIfInBounds_toArray, List.set_cons_zero, List.set_cons_succ]
          refine wpAnyH_take (i := 4) (oi := _) (v := undef) rfl (by kernel_rfl) (by kernel_rfl) (by kernel_rfl) (fun _ _ _ h => h) (Or.inr ⟨by kernel_rfl, rfl⟩) (by assumption) ?restr12_1_4
          try simp only [Act.put, List.getElem_toArray, List.getElem_cons_succ, List.getElem_cons_zero, List.setIfInBounds_toArray, List.set_cons_zero, List.set_cons_succ]
          refine wpAnyH_take (i := 5) (oi := _) (v := undef) rfl (by kernel_rfl) (by kernel_rfl) (by kernel_rfl) (fun _ _ _ h => h) (Or.inr ⟨by kernel_rfl, rfl⟩) (by assumption) ?restr12_1_5
          try simp only [Act.put, List.getElem_toArray, List.getElem_cons_succ, List.getElem_cons_zero, List.setIfInBounds_toArray, List.set_cons_zero, List.set_cons_succ]
          refine wpAnyH_take (i := 6) (oi := _) (v := undef) rfl (by kernel_rfl) (by kernel_rfl) (by kernel_rfl) (fun _ _ _ h => h) (Or.inr ⟨by kernel_rfl, rfl⟩) (by assumption) ?restr12_1_6
          try simp only [Act.put, List.getElem_toArray, List.getElem_cons_succ, List.getElem_cons_zero, List.setIfInBounds_toArray, List.set_cons_zero, List.set_cons_succ]
          refine wpAnyH_take (i := 7) (oi := _) (v := undef) rfl (by kernel_rfl) (by kernel_rfl) (by kernel_rfl) (fun _ _ _ h => h) (Or.inr ⟨by kernel_rfl, rfl⟩) (by assumption) ?restr12_1_7
          try simp only [Act.put, List.getElem_toArray, List.getElem_cons_succ, List.getElem_cons_zero, List.setIfInBounds_toArray, List.set_cons_zero, List.set_cons_succ]
          refine wpAnyH_take (i := 8) (oi := _) (v := undef) rfl (by kernel_rfl) (by kernel_rfl) (by kernel_rfl) (fun _ _ _ h => h) (Or.inr ⟨by kernel_rfl, rfl⟩) (by assumption) ?restr12_1_8
          try simp only [Act.put, List.getElem_toArray, List.getElem_cons_succ, List.getElem_cons_zero, List.setIfInBounds_toArray, List.set_cons_zero, List.set_cons_succ]
          refine wpAnyH_take (i := 9) (oi := _) (v := ?vr12_1_9) rfl (by kernel_rfl) (by kernel_rfl) (by kernel_rfl) ?hqr12_1_9 (Or.inl ⟨by kernel_rfl, ?hyr12_1_9⟩) (by assumption) ?restr12_1_9
          case hqr12_1_9 => exact fun _ _ _ h => h
          case hyr12_1_9 => (intro w hSw; (try dsimp only at hSw); go_simp; try with_reducible rfl)
          try simp only [Act.put, List.getElem_toArray, List.getElem_cons_succ, List.getElem_cons_zero, List.setIfInBounds_toArray, List.set_cons_zero, List.set_cons_succ]
          refine wpAnyH_take (i := 10) (oi := _) (v := ?vr12_1_10) rfl (by kernel_rfl) (by kernel_rfl) (by kernel_rfl) ?hqr12_1_10 (Or.inl ⟨by kernel_rfl, ?hyr12_1_10⟩) (by assumption) ?restr12_1_10
          case hqr12_1_10 => exact fun _ _ _ h => h
          case hyr12_1_10 => (intro w hSw; (try dsimp only at hSw); go_simp; try with_reducible rfl)
          try simp only [Act.put, List.getElem_toArray, List.getElem_cons_succ, List.getElem_cons_zero, List.setIfInBounds_toArray, List.set_cons_zero, List.set_cons_succ]
          refine wpAnyH_done (by kernel_rfl) ?_ _
          refine NoPanic.normal ?_
          go_wp2
          go_ret
          exact ⟨by rw [hR2]; rfl, hB5.then_ hB7.drew⟩
    · simp only [leastI] at HLE HR1
      have v1 : IntKind.i64.wrap (-9223372036854775807) = -9223372036854775807 := by decide
      have v2 : IntKind.i64.wrap 9223372036854775807 = 9223372036854775807 := by decide
      have v3 : IntKind.i64.wrap (-9223372036854775808 + 1) = -9223372036854775807 := by decide
      have v4 : IntKind.i64.wrap (-(-9223372036854775807)) = 9223372036854775807 := by decide
      go_enter Tryz.func24, Tryz.ntmps24
      go_wp2_with (first | (go_at_call 56; refine (HCO.out _).mono ?_; rintro e w4 ⟨rfl, hb4⟩; obtain ⟨⟨a0, a1, a2, a3, c0, c1, c2, c3⟩, hB4⟩ := HCL.out _ hb4) | (go_at_call 57; refine (HCH.out _).mono ?_; rintro e w5 ⟨rfl, hb5⟩; obtain ⟨⟨d0, d1, d2, d3, e0, e1, e2, e3⟩, hB5⟩ := HCL.out _ (hb4.then_ hb5)))
      have hS : ∀ V, Bel w5 V → (V.cell? ⟨w.heap.size, 2, none⟩ = some (.int .i64 8) ∧ V.cell? ⟨w.heap.size + 1, 1, none⟩ = some (.int .i64 n) ∧ V.cell? ⟨w.heap.size + 1, 2, none⟩ = some (.int .u64 u) ∧ Bel w5 V) := fun V h => ⟨h.c d2, h.c e1, h.c e2, h⟩
      by_cases hl : n < -9223372036854775808
      · have hR2 : R = 133 := by rw [HR1.out, if_neg (by omega)]
        refine wp_region_noPanic ?_
        refine wp_region_held_drew (S := (fun V : World => V.cell? ⟨w.heap.size, 2, none⟩ = some (.int .i64 8) ∧ V.cell? ⟨w.heap.size + 1, 1, none⟩ = some (.int .i64 n) ∧ V.cell? ⟨w.heap.size + 1, 2, none⟩ = some (.int .u64 u) ∧ Bel w5 V)) (by kernel_rfl) ?_ (fun hHr13_0 => ?_)
        · (try dsimp only); (first | assumption | exact hS _ (Bel.refl w5).drew | exact hS _ hB6 | exact hS _ (hB6.then_ hb7))
        refine wpAnyH_take (i := 0) (oi := _) (v := ?vr13_1_0) rfl (by kernel_rfl) (by kernel_rfl) (by kernel_rfl) ?hqr13_1_0 (Or.inl ⟨by kernel_rfl, ?hyr13_1_0⟩) (by assumption) ?restr13_1_0
        case hqr13_1_0 => exact fun _ _ _ h => h
        case hyr13_1_0 => (intro w hSw; (try dsimp only at hSw); go_simp; try with_reducible rfl)
        try simp only [Act.put, List.getElem_toArray, List.getElem_cons_succ, List.getElem_cons_zero, List.setIfInBounds_toArray, List.set_cons_zero, List.set_cons_succ]
        refine wpAnyH_take (i := 1) (oi := _) (v := ?vr13_1_1) rfl (by kernel_rfl) (by kernel_rfl) (by kernel_rfl) ?hqr13_1_1 (Or.inl ⟨by kernel_rfl, ?hyr13_1_1⟩) (by assumption) ?restr13_1_1
        case hqr13_1_1 => exact fun _ _ _ h => h
        case hyr13_1_1 => (intro w hSw; (try dsimp only at hSw); go_simp; try with_reducible rfl)
        try simp only [Act.put, List.getElem_toArray, List.getElem_cons_succ, List.getElem_cons_zero, List.setIfInBounds_toArray, List.set_cons_zero, List.set_cons_succ]
        refine wpAnyH_take (i := 2) (oi := _) (v := ?vr13_1_2) rfl (by kernel_rfl) (by kernel_rfl) (by kernel_rfl) ?hqr13_1_2 (Or.inl ⟨by kernel_rfl, ?hyr13_1_2⟩) (by assumption) ?restr13_1_2
        case hqr13_1_2 => exact fun _ _ _ h => h
        case hyr13_1_2 => (intro w hSw; (try dsimp only at hSw); go_simp; try with_reducible rfl)
        try simp only [Act.put, List.getElem_toArray, List.getElem_cons_succ, List.getElem_cons_zero, List.setIfInBounds_toArray, List.set_cons_zero, List.set_cons_succ]
        refine wpAnyH_take (i := 3) (oi := _) (v := ?vr13_1_3) rfl (by kernel_rfl) (by kernel_rfl) (by kernel_rfl) ?hqr13_1_3 (Or.inl ⟨by kernel_rfl, ?hyr13_1_3⟩) (by assumption) ?restr13_1_3
        case hqr13_1_3 => exact fun _ _ _ h => h
        case hyr13_1_3 => (intro w hSw; (try dsimp only at hSw); go_simp; try with_reducible rfl)
        try simp only [Act.put, List.getElem_toArray, List.getElem_cons_succ, List.getElem_cons_zero, List.setIfInBounds_toArray, List.set_cons_zero, List.set_cons_succ]
        refine wpAnyH_take (i := 4) (oi := _) (v := ?vr13_1_4) rfl (by kernel_rfl) (by kernel_rfl) (by kernel_rfl) ?hqr13_1_4 (Or.inl ⟨by kernel_rfl, ?hyr13_1_4⟩) (by assumption) ?restr13_1_4
        case hqr13_1_4 => exact fun _ _ _ h => h
        case hyr13_1_4 => (intro w hSw; (try dsimp only at hSw); go_simp; try with_reducible rfl)
        try simp only [Act.put, List.getElem_toArray, List.getElem_cons_succ, List.getElem_cons_zero, List.setIfInBounds_toArray, List.set_cons_zero, List.set_cons_succ]
        refine wpAnyH_take (i := 5) (oi := _) (v := ?vr13_1_5) rfl (by kernel_rfl) (by kernel_rfl) (by kernel_rfl) ?hqr13_1_5 (Or.inl ⟨by kernel_rfl, ?hyr13_1_5⟩) (by assumption) ?restr13_1_5
        case hqr13_1_5 => exact fun _ _ _ h => h
        case hyr13_1_5 => (intro w hSw; (try dsimp only at hSw); go_simp; try with_reducible rfl)
        try simp only [Act.put, List.getElem_toArray, List.getElem_cons_succ, List.getElem_cons_zero, List.setIfInBounds_toArray, List.set_cons_zero, List.set_cons_succ]
        refine wpAnyH_take (i := 6) (oi := _) (v := ?vr13_1_6) rfl (by kernel_rfl) (by kernel_rfl) (by kernel_rfl) ?hqr13_1_6 (Or.inl ⟨by kernel_rfl, ?hyr13_1_6⟩) (by assumption) ?restr13_1_6
        case hqr13_1_6 => exact fun _ _ _ h => h
        case hyr13_1_6 => (intro w hSw; (try dsimp only at hSw); go_simp; try with_reducible rfl)
        try simp only [Act.put, List.getElem_toArray, List.getElem_cons_succ, List.getElem_cons_zero, List.setIfInBounds_toArray, List.set_cons_zero, List.set_cons_succ]
        refine wpAnyH_ready (rs := [7]) (by kernel_rfl) (by simp) ?_
        refine AllReadyH.cons (o := _) rfl (fun K hK => ?_) AllReadyH.nil
        go_simp
        (go_at_call 58; refine (HLE.out _).mono ?_; rintro e w6 ⟨rfl, hb6⟩; have hB6 : Bel w5 w6 := Bel.then_ (Bel.refl w5).drew hb6)
        try (go_wp2_with fail)
        refine hK.out _ _ ?_ (fun hHr13_1 => ?_)
        · (try dsimp only); (first | assumption | exact hS _ (Bel.refl w5).drew | exact hS _ hB6 | exact hS _ (hB6.then_ hb7))
        clear hK K hHr13_0
        try simp only [Act.put, List.getElem_toArray, List.getElem_cons_succ, List.getElem_cons_zero, List.setIfInBounds_toArray, List.set_cons_zero, List.set_cons_succ]
        refine wpAnyH_take (i := 8) (oi := _) (v := ?vr13_1_8) rfl (by kernel_rfl) (by kernel_rfl) (by kernel_rfl) ?hqr13_1_8 (Or.inl ⟨by kernel_rfl, ?hyr13_1_8⟩) (by assumption) ?restr13_1_8
        case hqr13_1_8 => exact fun _ _ _ h => h
        case hyr13_1_8 => (intro w hSw; (try dsimp only at hSw); go_simp; try with_reducible rfl)
        try simp only [Act.put, List.getElem_toArray, List.getElem_cons_succ, List.getElem_cons_zero, List.setIfInBounds_toArray, List.set_cons_zero, List.set_cons_succ]
        refine wpAnyH_take (i := 9) (oi := _) (v := ?vr13_1_9) rfl (by kernel_rfl) (by kernel_rfl) (by kernel_rfl) ?hqr13_1_9 (Or.inl ⟨by kernel_rfl, ?hyr13_1_9⟩) (by assumption) ?restr13_1_9
        case hqr13_1_9 => exact fun _ _ _ h => h
        case hyr13_1_9 => (intro w hSw; (try dsimp only at hSw); go_simp; try with_reducible rfl)
        try simp only [Act.put, List.getElem_toArray, List.getElem_cons_succ, List.getElem_cons_zero, List.setIfInBounds_toArray, List.set_cons_zero, List.set_cons_succ]
        refine wpAnyH_take (i := 10) (oi := _) (v := undef) rfl (by kernel_rfl) (by kernel_rfl) (by kernel_rfl) (fun _ _ _ h => h) (Or.inr ⟨by kernel_rfl, rfl⟩) (by assumption) ?restr13_1_10
        try simp only [Act.put, List.getElem_toArray, List.getElem_cons_succ, List.getElem_cons_zero, List.setIfInBounds_toArray, List.set_cons_zero, List.set_cons_succ]
        refine wpAnyH_take (i := 11) (oi := _) (v := undef) rfl (by kernel_rfl) (by kernel_rfl) (by kernel_rfl) (fun _ _ _ h => h) (Or.inr ⟨by kernel_rfl, rfl⟩) (by assumption) ?restr13_1_11
        try simp only [Act.put, List.getElem_toArray, List.getElem_cons_succ, List.getElem_cons_zero, List.setIfInBounds_toArray, List.set_cons_zero, List.set_cons_succ]
        refine wpAnyH_take (i := 12) (oi := _) (v := undef) rfl (by kernel_rfl) (by kernel_rfl) (by kernel_rfl) (fun _ _ _ h => h) (Or.inr ⟨by kernel_rfl, rfl⟩) (by assumption) ?restr13_1_12
        try simp only [Act.put, List.getElem_toArray, List.getElem_cons_succ, List.getElem_cons_zero, List.setIfInBounds_toArray, List.set_cons_zero, List.set_cons_succ]
        refine wpAnyH_take (i := 13) (oi := _) (v := undef) rfl (by kernel_rfl) (by kernel_rfl) (by kernel_rfl) (fun _ _ _ h => h) (Or.inr ⟨by kernel_rfl, rfl⟩) (by assumption) ?restr13_1_13
        try simp only [Act.put, List.getElem_toArray, List.getElem_cons_succ, List.getElem_cons_zero, List.setIfInBounds_toArray, List.set_cons_zero, List.set_cons_succ]
        refine wpAnyH_take (i := 14) (oi := _) (v := undef) rfl (by kernel_rfl) (by kernel_rfl) (by kernel_rfl) (fun _ _ _ h => h) (Or.inr ⟨by kernel_rfl, rfl⟩) (by assumption) ?restr13_1_14
        try simp only [Act.put, List.getElem_toArray, List.getElem_cons_succ, List.getElem_cons_zero, List.setIfInBounds_toArray, List.set_cons_zero, List.set_cons_succ]
        refine wpAnyH_take (i := 15) (oi := _) (v := undef) rfl (by kernel_rfl) (by kernel_rfl) (by kernel_rfl) (fun _ _ _ h => h) (Or.inr ⟨by kernel_rfl, rfl⟩) (by assumption) ?restr13_1_15
        try simp only [Act.put, List.getElem_toArray, List.getElem_cons_succ, List.getElem_cons_zero, List.setIfInBounds_toArray, List.set_cons_zero, List.set_cons_succ]
        refine wpAnyH_take (i := 16) (oi := _) (v := undef) rfl (by kernel_rfl) (by kernel_rfl) (by kernel_rfl) (fun _ _ _ h => h) (Or.inr ⟨by kernel_rfl, rfl⟩) (by assumption) ?restr13_1_16
        try simp only [Act.put, List.getElem_toArray, List.getElem_cons_succ, List.getElem_cons_zero, List.setIfInBounds_toArray, List.set_cons_zero, List.set_cons_succ]
        refine wpAnyH_take (i := 17) (oi := _) (v := undef) rfl (by kernel_rfl) (by kernel_rfl) (by kernel_rfl) (fun _ _ _ h => h) (Or.inr ⟨by kernel_rfl, rfl⟩) (by assumption) ?restr13_1_17
        try simp only [Act.put, List.getElem_toArray, List.getElem_cons_succ, List.getElem_cons_zero, List.setIfInBounds_toArray, List.set_cons_zero, List.set_cons_succ]
        refine wpAnyH_take (i := 18) (oi := _) (v := ?vr13_1_18) rfl (by kernel_rfl) (by kernel_rfl) (by kernel_rfl) ?hqr13_1_18 (Or.inl ⟨by kernel_rfl, ?hyr13_1_18⟩) (by assumption) ?restr13_1_18
        case hqr13_1_18 => exact fun _ _ _ h => h
        case hyr13_1_18 => (intro w hSw; (try dsimp only at hSw); go_simp; try with_reducible rfl)
        try simp only [Act.put, List.getElem_toArray, List.getElem_cons_succ, List.getElem_cons_zero, List.setIfInBounds_toArray, List.set_cons_zero, List.set_cons_succ]
        refine wpAnyH_take (i := 19) (oi := _) (v := ?vr13_1_19) rfl (by kernel_rfl) (by kernel_rfl) (by kernel_rfl) ?hqr13_1_19 (Or.inl ⟨by kernel_rfl, ?hyr13_1_19⟩) (by assumption) ?restr13_1_19
        case hqr13_1_19 => exact fun _ _ _ h => h
        case hyr13_1_19 => (intro w hSw; (try dsimp only at hSw); go_simp; try with_reducible rfl)
        try simp only [Act.put, List.getElem_toArray, List.getElem_cons_succ, List.getElem_cons_zero, List.setIfInBounds_toArray, List.set_cons_zero, List.set_cons_succ]
        refine wpAnyH_take (i := 20) (oi := _) (v := ?vr13_1_20) rfl (by kernel_rfl) (by kernel_rfl) (by kernel_rfl) ?hqr13_1_20 (Or.inl ⟨by kernel_rfl, ?hyr13_1_20⟩) (by assumption) ?restr13_1_20
        case hqr13_1_20 => exact fun _ _ _ h => h
        case hyr13_1_20 => (intro w hSw; (try dsimp only at hSw); go_simp; try with_reducible rfl)
        try simp only [Act.put, List.getElem_toArray, List.getElem_cons_succ, List.getElem_cons_zero, List.setIfInBounds_toArray, List.set_cons_zero, List.set_cons_succ]
        refine wpAnyH_done (by kernel_rfl) ?_ _
        refine NoPanic.normal ?_
        go_wp2
        go_ret
        exact ⟨by rw [hR2]; rfl, hB5.then_ (by assumption : _ ∧ _ ∧ _ ∧ Bel w5 _).2.2.2⟩
      · have hlb : decide (n < -9223372036854775808) = false := by simp; omega
        by_cases hu : 9223372036854775807 < n
        · have hR2 : R = 133 := by rw [HR1.out, if_neg (by omega)]
          refine wp_region_noPanic ?_
          refine wp_region_held_drew (S := (fun V : World => V.cell? ⟨w.heap.size, 2, none⟩ = some (.int .i64 8) ∧ V.cell? ⟨w.heap.size + 1, 1, none⟩ = some (.int .i64 n) ∧ V.cell? ⟨w.heap.size + 1, 2, none⟩ = some (.int .u64 u) ∧ Bel w5 V)) (by kernel_rfl) ?_ (fun hHr14_0 => ?_)
          · (try dsimp only); (first | assumption | exact hS _ (Bel.refl w5).drew | exact hS _ hB6 | exact hS _ (hB6.then_ hb7))
          refine wpAnyH_take (i := 0) (oi := _) (v := ?vr14_1_0) rfl (by kernel_rfl) (by kernel_rfl) (by kernel_rfl) ?hqr14_1_0 (Or.inl ⟨by kernel_rfl, ?hyr14_1_0⟩) (by assumption) ?restr14_1_0
          case hqr14_1_0 => exact fun _ _ _ h => h
          case hyr14_1_0 => (intro w hSw; (try dsimp only at hSw); go_simp; try with_reducible rfl)
          try simp only [Act.put, List.getElem_toArray, List.getElem_cons_succ, List.getElem_cons_zero, List.setIfInBounds_toArray, List.set_cons_zero, List.set_cons_succ]
          refine wpAnyH_take (i := 1) (oi := _) (v := ?vr14_1_1) rfl (by kernel_rfl) (by kernel_rfl) (by kernel_rfl) ?hqr14_1_1 (Or.inl ⟨by kernel_rfl, ?hyr14_1_1⟩) (by assumption) ?restr14_1_1
          case hqr14_1_1 => exact fun _ _ _ h => h
          case hyr14_1_1 => (intro w hSw; (try dsimp only at hSw); go_simp; try with_reducible rfl)
          try simp only [Act.put, List.getElem_toArray, List.getElem_cons_succ, List.getElem_cons_zero, List.setIfInBounds_toArray, List.set_cons_zero, List.set_cons_succ]
          refine wpAnyH_take (i := 2) (oi := _) (v := ?vr14_1_2) rfl (by kernel_rfl) (by kernel_rfl) (by kernel_rfl) ?hqr14_1_2 (Or.inl ⟨by kernel_rfl, ?hyr14_1_2⟩) (by assumption) ?restr14_1_2
          case hqr14_1_2 => exact fun _ _ _ h => h
          case hyr14_1_2 => (intro w hSw; (try dsimp only at hSw); go_simp; try with_reducible rfl)
          try simp only [Act.put, List.getElem_toArray, List.getElem_cons_succ, List.getElem_cons_zero, List.setIfInBounds_toArray, List.set_cons_zero, List.set_cons_succ]
          refine wpAnyH_take (i := 3) (oi := _) (v := ?vr14_1_3) rfl (by kernel_rfl) (by kernel_rfl) (by kernel_rfl) ?hqr14_1_3 (Or.inl ⟨by kernel_rfl, ?hyr14_1_3⟩) (by assumption) ?restr14_1_3
          case hqr14_1_3 => exact fun _ _ _ h => h
          case hyr14_1_3 => (intro w hSw; (try dsimp only at hSw); go_simp; try with_reducible rfl)
          try simp only [Act.put, List.getElem_toArray, List.getElem_cons_succ, List.getElem_cons_zero, List.setIfInBounds_toArray, List.set_cons_zero, List.set_cons_succ]
          refine wpAnyH_take (i := 4) (oi := _) (v := ?vr14_1_4) rfl (by kernel_rfl) (by kernel_rfl) (by kernel_rfl) ?hqr14_1_4 (Or.inl ⟨by kernel_rfl, ?hyr14_1_4⟩) (by assumption) ?restr14_1_4
          case hqr14_1_4 => exact fun _ _ _ h => h
          case hyr14_1_4 => (intro w hSw; (try dsimp only at hSw); go_simp; try with_reducible rfl)
          try simp only [Act.put, List.getElem_toArray, List.getElem_cons_succ, List.getElem_cons_zero, List.setIfInBounds_toArray, List.set_cons_zero, List.set_cons_succ]
          refine wpAnyH_take (i := 5) (oi := _) (v := ?vr14_1_5) rfl (by kernel_rfl) (by kernel_rfl) (by kernel_rfl) ?hqr14_1_5 (Or.inl ⟨by kernel_rfl, ?hyr14_1_5⟩) (by assumption) ?restr14_1_5
          case hqr14_1_5 => exact fun _ _ _ h => h
          case hyr14_1_5 => (intro w hSw; (try dsimp only at hSw); go_simp; try with_reducible rfl)
          try simp only [Act.put, List.getElem_toArray, List.getElem_cons_succ, List.getElem_cons_zero, List.setIfInBounds_toArray, List.set_cons_zero, List.set_cons_succ]
          refine wpAnyH_take (i := 6) (oi := _) (v := ?vr14_1_6) rfl (by kernel_rfl) (by kernel_rfl) (by kernel_rfl) ?hqr14_1_6 (Or.inl ⟨by kernel_rfl, ?hyr14_1_6⟩) (by assumption) ?restr14_1_6
          case hqr14_1_6 => exact fun _ _ _ h => h
          case hyr14_1_6 => (intro w hSw; (try dsimp only at hSw); go_simp; try with_reducible rfl)
          try simp only [Act.put, List.getElem_toArray, List.getElem_cons_succ, List.getElem_cons_zero, List.setIfInBounds_toArray, List.set_cons_zero, List.set_cons_succ]
          refine wpAnyH_ready (rs := [7]) (by kernel_rfl) (by simp) ?_
          refine AllReadyH.cons (o := _) rfl (fun K hK => ?_) AllReadyH.nil
          go_simp
          (go_at_call 58; refine (HLE.out _).mono ?_; rintro e w6 ⟨rfl, hb6⟩; have hB6 : Bel w5 w6 := Bel.then_ (Bel.refl w5).drew hb6)
          try (go_wp2_with fail)
          refine hK.out _ _ ?_ (fun hHr14_1 => ?_)
          · (try dsimp only); (first | assumption | exact hS _ (Bel.refl w5).drew | exact hS _ hB6 | exact hS _ (hB6.then_ hb7))
          clear hK K hHr14_0
          try simp only [Act.put, List.getElem_toArray, List.getElem_cons_succ, List.getElem_cons_zero, List.setIfInBounds_toArray, List.set_cons_zero, List.set_cons_succ]
          refine wpAnyH_take (i := 8) (oi := _) (v := ?vr14_1_8) rfl (by kernel_rfl) (by kernel_rfl) (by kernel_rfl) ?hqr14_1_8 (Or.inl ⟨by kernel_rfl, ?hyr14_1_8⟩) (by assumption) ?restr14_1_8
          case hqr14_1_8 => exact fun _ _ _ h => h
          case hyr14_1_8 => (intro w hSw; (try dsimp only at hSw); go_simp; try with_reducible rfl)
          try simp only [Act.put, List.getElem_toArray, List.getElem_cons_succ, List.getElem_cons_zero, List.setIfInBounds_toArray, List.set_cons_zero, List.set_cons_succ]
          refine wpAnyH_take (i := 9) (oi := _) (v := ?vr14_1_9) rfl (by kernel_rfl) (by kernel_rfl) (by kernel_rfl) ?hqr14_1_9 (Or.inl ⟨by kernel_rfl, ?hyr14_1_9⟩) (by assumption) ?restr14_1_9
          case hqr14_1_9 => exact fun _ _ _ h => h
          case hyr14_1_9 => (intro w hSw; (try dsimp only at hSw); go_simp; try with_reducible rfl)
          try simp only [Act.put, List.getElem_toArray, List.getElem_cons_succ, List.getElem_cons_zero, List.setIfInBounds_toArray, List.set_cons_zero, List.set_cons_succ]
          refine wpAnyH_take (i := 10) (oi := _) (v := ?vr14_1_10) rfl (by kernel_rfl) (by kernel_rfl) (by kernel_rfl) ?hqr14_1_10 (Or.inl ⟨by kernel_rfl, ?hyr14_1_10⟩) (by assumption) ?restr14_1_10
          case hqr14_1_10 => exact fun _ _ _ h => h
          case hyr14_1_10 => (intro w hSw; (try dsimp only at hSw); go_simp; try with_reducible rfl)
          try simp only [Act.put, List.getElem_toArray, List.getElem_cons_succ, List.getElem_cons_zero, List.setIfInBounds_toArray, List.set_cons_zero, List.set_cons_succ]
          refine wpAnyH_take (i := 11) (oi := _) (v := ?vr14_1_11) rfl (by kernel_rfl) (by kernel_rfl) (by kernel_rfl) ?hqr14_1_11 (Or.inl ⟨by kernel_rfl, ?hyr14_1_11⟩) (by assumption) ?restr14_1_11
          case hqr14_1_11 => exact fun _ _ _ h => h
          case hyr14_1_11 => (intro w hSw; (try dsimp only at hSw); go_simp; try with_reducible rfl)
          try simp only [Act.put, List.getElem_toArray, List.getElem_cons_succ, List.getElem_cons_zero, List.setIfInBounds_toArray, List.set_cons_zero, List.set_cons_succ]
          refine wpAnyH_take (i := 12) (oi := _) (v := ?vr14_1_12) rfl (by kernel_rfl) (by kernel_rfl) (by kernel_rfl) ?hqr14_1_12 (Or.inl ⟨by kernel_rfl, ?hyr14_1_12⟩) (by assumption) ?restr14_1_12
          case hqr14_1_12 => exact fun _ _ _ h => h
          case hyr14_1_12 => (intro w hSw; (try dsimp only at hSw); go_simp; try with_reducible rfl)
          try simp only [Act.put, List.getElem_toArray, List.getElem_cons_succ, List.getElem_cons_zero, List.setIfInBounds_toArray, List.set_cons_zero, List.set_cons_succ]
          refine wpAnyH_take (i := 13) (oi := _) (v := ?vr14_1_13) rfl (by kernel_rfl) (by kernel_rfl) (by kernel_rfl) ?hqr14_1_13 (Or.inl ⟨by kernel_rfl, ?hyr14_1_13⟩) (by assumption) ?restr14_1_13
          case hqr14_1_13 => exact fun _ _ _ h => h
          case hyr14_1_13 => (intro w hSw; (try dsimp only at hSw); go_simp; try with_reducible rfl)
          try simp only [Act.put, List.getElem_toArray, List.getElem_cons_succ, List.getElem_cons_zero, List.setIfInBounds_toArray, List.set_cons_zero, List.set_cons_succ]
          refine wpAnyH_ready (rs := [14]) (by kernel_rfl) (by simp) ?_
          refine AllReadyH.cons (o := _) rfl (fun K hK => ?_) AllReadyH.nil
          go_simp
          (go_at_call 58; refine (HLE.out _).mono ?_; rintro e w7 ⟨rfl, hb7⟩)
          try (go_wp2_with fail)
          refine hK.out _ _ ?_ (fun hHr14_2 => ?_)
          · (try dsimp only); (first | assumption | exact hS _ (Bel.refl w5).drew | exact hS _ hB6 | exact hS _ (hB6.then_ hb7))
          clear hK K hHr14_1
          try simp only [Act.put, List.getElem_toArray, List.getElem_cons_succ, List.getElem_cons_zero, List.setIfInBounds_toArray, List.set_cons_zero, List.set_cons_succ]
          refine wpAnyH_take (i := 15) (oi := _) (v := ?vr14_1_15) rfl (by kernel_rfl) (by kernel_rfl) (by kernel_rfl) ?hqr14_1_15 (Or.inl ⟨by kernel_rfl, ?hyr14_1_15⟩) (by assumption) ?restr14_1_15
          case hqr14_1_15 => exact fun _ _ _ h => h
          case hyr14_1_15 => (intro w hSw; (try dsimp only at hSw); go_simp; try with_reducible rfl)
          try simp only [Act.put, List.getElem_toArray, List.getElem_cons_succ, List.getElem_cons_zero, List.setIfInBounds_toArray, List.set_cons_zero, List.set_cons_succ]
          refine wpAnyH_take (i := 16) (oi := _) (v := ?vr14_1_16) rfl (by kernel_rfl) (by kernel_rfl) (by kernel_rfl) ?hqr14_1_16 (Or.inl ⟨by kernel_rfl, ?hyr14_1_16⟩) (by assumption) ?restr14_1_16
          case hqr14_1_16 => exact fun _ _ _ h => h
          case hyr14_1_16 => (intro w hSw; (try dsimp only at hSw); go_simp; try with_reducible rfl)
          try simp only [Act.put, List.getElem_toArray, List.getElem_cons_succ, List.getElem_cons_zero, List.setIfInBounds_toArray, List.set_cons_zero, List.set_cons_succ]
          refine wpAnyH_take (i := 17) (oi := _) (v := ?vr14_1_17) rfl (by kernel_rfl) (by kernel_rfl) (by kernel_rfl) ?hqr14_1_17 (Or.inl ⟨by kernel_rfl, ?hyr14_1_17⟩) (by assumption) ?restr14_1_17
          case hqr14_1_17 => exact fun _ _ _ h => h
          case hyr14_1_17 => (intro w hSw; (try dsimp only at hSw); go_simp; try with_reducible rfl)
          try simp only [Act.put, List.getElem_toArray, List.getElem_cons_succ, List.getElem_cons_zero, List.setIfInBounds_toArray, List.set_cons_zero, List.set_cons_succ]
          refine wpAnyH_take (i := 18) (oi := _) (v := ?vr14_1_18) rfl (by kernel_rfl) (by kernel_rfl) (by kernel_rfl) ?hqr14_1_18 (Or.inl ⟨by kernel_rfl, ?hyr14_1_18⟩) (by assumption) ?restr14_1_18
          case hqr14_1_18 => exact fun _ _ _ h => h
          case hyr14_1_18 => (intro w hSw; (try dsimp only at hSw); go_simp; try with_reducible rfl)
          try simp only [Act.put, List.getElem_toArray, List.getElem_cons_succ, List.getElem_cons_zero, List.setIfInBounds_toArray, List.set_cons_zero, List.set_cons_succ]
          refine wpAnyH_take (i := 19) (oi := _) (v := ?vr14_1_19) rfl (by kernel_rfl) (by kernel_rfl) (by kernel_rfl) ?hqr14_1_19 (Or.inl ⟨by kernel_rfl, ?hyr14_1_19⟩) (by assumption) ?restr14_1_19
          case hqr14_1_19 => exact fun _ _ _ h => h
          case hyr14_1_19 => (intro w hSw; (try dsimp only at hSw); go_simp; try with_reducible rfl)
          try simp only [Act.put, List.getElem_toArray, List.getElem_cons_succ, List.getElem_cons_zero, List.setIfInBounds_toArray, List.set_cons_zero, List.set_cons_succ]
          refine wpAnyH_take (i := 20) (oi := _) (v := ?vr14_1_20) rfl (by kernel_rfl) (by kernel_rfl) (by kernel_rfl) ?hqr14_1_20 (Or.inl ⟨by kernel_rfl, ?hyr14_1_20⟩) (by assumption) ?restr14_1_20
          case hqr14_1_20 => exact fun _ _ _ h => h
          case hyr14_1_20 => (intro w hSw; (try dsimp only at hSw); go_simp; try with_reducible rfl)
          try simp only [Act.put, List.getElem_toArray, List.getElem_cons_succ, List.getElem_cons_zero, List.setIfInBounds_toArray, List.set_cons_zero, List.set_cons_succ]
          refine wpAnyH_done (by kernel_rfl) ?_ _
          refine NoPanic.normal ?_
          go_wp2
          go_ret
          exact ⟨by rw [hR2]; rfl, hB5.then_ (by assumption : _ ∧ _ ∧ _ ∧ Bel w5 _).2.2.2⟩
        · have hub : decide (9223372036854775807 < n) = false := by simp; omega
          have hR2 : R = 0 := by rw [HR1.out, if_pos (by omega)]
          refine wp_region_noPanic ?_
          refine wp_region_held_drew (S := (fun V : World => V.cell? ⟨w.heap.size, 2, none⟩ = some (.int .i64 8) ∧ V.cell? ⟨w.heap.size + 1, 1, none⟩ = some (.int .i64 n) ∧ V.cell? ⟨w.heap.size + 1, 2, none⟩ = some (.int .u64 u) ∧ Bel w5 V)) (by kernel_rfl) ?_ (fun hHr15_0 => ?_)
          · (try dsimp only); (first | assumption | exact hS _ (Bel.refl w5).drew | exact hS _ hB6 | exact hS _ (hB6.then_ hb7))
          refine wpAnyH_take (i := 0) (oi := _) (v := ?vr15_1_0) rfl (by kernel_rfl) (by kernel_rfl) (by kernel_rfl) ?hqr15_1_0 (Or.inl ⟨by kernel_rfl, ?hyr15_1_0⟩) (by assumption) ?restr15_1_0
          case hqr15_1_0 => exact fun _ _ _ h => h
          case hyr15_1_0 => (intro w hSw; (try dsimp only at hSw); go_simp; try with_reducible rfl)
          try simp only [Act.put, List.getElem_toArray, List.getElem_cons_succ, List.getElem_cons_zero, List.setIfInBounds_toArray, List.set_cons_zero, List.set_cons_succ]
          refine wpAnyH_take (i := 1) (oi := _) (v := ?vr15_1_1) rfl (by kernel_rfl) (by kernel_rfl) (by kernel_rfl) ?hqr15_1_1 (Or.inl ⟨by kernel_rfl, ?hyr15_1_1⟩) (by assumption) ?restr15_1_1
          case hqr15_1_1 => exact fun _ _ _ h => h
          case hyr15_1_1 => (intro w hSw; (try dsimp only at hSw); go_simp; try with_reducible rfl)
          try simp only [Act.put, List.getElem_toArray, List.getElem_cons_succ, List.getElem_cons_zero, List.setIfInBounds_toArray, List.set_cons_zero, List.set_cons_succ]
          refine wpAnyH_take (i := 2) (oi := _) (v := ?vr15_1_2) rfl (by kernel_rfl) (by kernel_rfl) (by kernel_rfl) ?hqr15_1_2 (Or.inl ⟨by kernel_rfl, ?hyr15_1_2⟩) (by assumption) ?restr15_1_2
          case hqr15_1_2 => exact fun _ _ _ h => h
          case hyr15_1_2 => (intro w hSw; (try dsimp only at hSw); go_simp; try with_reducible rfl)
          try simp only [Act.put, List.getElem_toArray, List.getElem_cons_succ, List.getElem_cons_zero, List.setIfInBounds_toArray, List.set_cons_zero, List.set_cons_succ]
          refine wpAnyH_take (i := 3) (oi := _) (v := ?vr15_1_3) rfl (by kernel_rfl) (by kernel_rfl) (by kernel_rfl) ?hqr15_1_3 (Or.inl ⟨by kernel_rfl, ?hyr15_1_3⟩) (by assumption) ?restr15_1_3
          case hqr15_1_3 => exact fun _ _ _ h => h
          case hyr15_1_3 => (intro w hSw; (try dsimp only at hSw); go_simp; try with_reducible rfl)
          try simp only [Act.put, List.getElem_toArray, List.getElem_cons_succ, List.getElem_cons_zero, List.setIfInBounds_toArray, List.set_cons_zero, List.set_cons_succ]
          refine wpAnyH_take (i := 4) (oi := _) (v := ?vr15_1_4) rfl (by kernel_rfl) (by kernel_rfl) (by kernel_rfl) ?hqr15_1_4 (Or.inl ⟨by kernel_rfl, ?hyr15_1_4⟩) (by assumption) ?restr15_1_4
          case hqr15_1_4 => exact fun _ _ _ h => h
          case hyr15_1_4 => (intro w hSw; (try dsimp only at hSw); go_simp; try with_reducible rfl)
          try simp only [Act.put, List.getElem_toArray, List.getElem_cons_succ, List.getElem_cons_zero, List.setIfInBounds_toArray, List.set_cons_zero, List.set_cons_succ]
          refine wpAnyH_take (i := 5) (oi := _) (v := ?vr15_1_5) rfl (by kernel_rfl) (by kernel_rfl) (by kernel_rfl) ?hqr15_1_5 (Or.inl ⟨by kernel_rfl, ?hyr15_1_5⟩) (by assumption) ?restr15_1_5
          case hqr15_1_5 => exact fun _ _ _ h => h
          case hyr15_1_5 => (intro w hSw; (try dsimp only at hSw); go_simp; try with_reducible rfl)
          try simp only [Act.put, List.getElem_toArray, List.getElem_cons_succ, List.getElem_cons_zero, List.setIfInBounds_toArray, List.set_cons_zero, List.set_cons_succ]
          refine wpAnyH_take (i := 6) (oi := _) (v := ?vr15_1_6) rfl (by kernel_rfl) (by kernel_rfl) (by kernel_rfl) ?hqr15_1_6 (Or.inl ⟨by kernel_rfl, ?hyr15_1_6⟩) (by assumption) ?restr15_1_6
          case hqr15_1_6 => exact fun _ _ _ h => h
          case hyr15_1_6 => (intro w hSw; (try dsimp only at hSw); go_simp; try with_reducible rfl)
          try simp only [Act.put, List.getElem_toArray, List.getElem_cons_succ, List.getElem_cons_zero, List.setIfInBounds_toArray, List.set_cons_zero, List.set_cons_succ]
          refine wpAnyH_ready (rs := [7]) (by kernel_rfl) (by simp) ?_
          refine AllReadyH.cons (o := _) rfl (fun K hK => ?_) AllReadyH.nil
          go_simp
          (go_at_call 58; refine (HLE.out _).mono ?_; rintro e w6 ⟨rfl, hb6⟩; have hB6 : Bel w5 w6 := Bel.then_ (Bel.refl w5).drew hb6)
          try (go_wp2_with fail)
          refine hK.out _ _ ?_ (fun hHr15_1 => ?_)
          · (try dsimp only); (first | assumption | exact hS _ (Bel.refl w5).drew | exact hS _ hB6 | exact hS _ (hB6.then_ hb7))
          clear hK K hHr15_0
          try simp only [Act.put, List.getElem_toArray, List.getElem_cons_succ, List.getElem_cons_zero, List.setIfInBounds_toArray, List.set_cons_zero, List.set_cons_succ]
          refine wpAnyH_take (i := 8) (oi := _) (v := ?vr15_1_8) rfl (by kernel_rfl) (by kernel_rfl) (by kernel_rfl) ?hqr15_1_8 (Or.inl ⟨by kernel_rfl, ?hyr15_1_8⟩) (by assumption) ?restr15_1_8
          case hqr15_1_8 => exact fun _ _ _ h => h
          case hyr15_1_8 => (intro w hSw; (try dsimp only at hSw); go_simp; try with_reducible rfl)
          try simp only [Act.put, List.getElem_toArray, List.getElem_cons_succ, List.getElem_cons_zero, List.setIfInBounds_toArray, List.set_cons_zero, List.set_cons_succ]
          refine wpAnyH_take (i := 9) (oi := _) (v := ?vr15_1_9) rfl (by kernel_rfl) (by kernel_rfl) (by kernel_rfl) ?hqr15_1_9 (Or.inl ⟨by kernel_rfl, ?hyr15_1_9⟩) (by assumption) ?restr15_1_9
          case hqr15_1_9 => exact fun _ _ _ h => h
          case hyr15_1_9 => (intro w hSw; (try dsimp only at hSw); go_simp; try with_reducible rfl)
          try simp only [Act.put, List.getElem_toArray, List.getElem_cons_succ, List.getElem_cons_zero, List.setIfInBounds_toArray, List.set_cons_zero, List.set_cons_succ]
          refine wpAnyH_take (i := 10) (oi := _) (v := ?vr15_1_10) rfl (by kernel_rfl) (by kernel_rfl) (by kernel_rfl) ?hqr15_1_10 (Or.inl ⟨by kernel_rfl, ?hyr15_1_10⟩) (by assumption) ?restr15_1_10
          case hqr15_1_10 => exact fun _ _ _ h => h
          case hyr15_1_10 => (intro w hSw; (try dsimp only at hSw); go_simp; try with_reducible rfl)
          try simp only [Act.put, List.getElem_toArray, List.getElem_cons_succ, List.getElem_cons_zero, List.setIfInBounds_toArray, List.set_cons_zero, List.set_cons_succ]
          refine wpAnyH_take (i := 11) (oi := _) (v := ?vr15_1_11) rfl (by kernel_rfl) (by kernel_rfl) (by kernel_rfl) ?hqr15_1_11 (Or.inl ⟨by kernel_rfl, ?hyr15_1_11⟩) (by assumption) ?restr15_1_11
          case hqr15_1_11 => exact fun _ _ _ h => h
          case hyr15_1_11 => (intro w hSw; (try dsimp only at hSw); go_simp; try with_reducible rfl)
          try simp only [Act.put, List.getElem_toArray, List.getElem_cons_succ, List.getElem_cons_zero, List.setIfInBounds_toArray, List.set_cons_zero, List.set_cons_succ]
          refine wpAnyH_take (i := 12) (oi := _) (v := ?vr15_1_12) rfl (by kernel_rfl) (by kernel_rfl) (by kernel_rfl) ?hqr15_1_12 (Or.inl ⟨by kernel_rfl, ?hyr15_1_12⟩) (by assumption) ?restr15_1_12
          case hqr15_1_12 => exact fun _ _ _ h => h
          case hyr15_1_12 => (intro w hSw; (try dsimp only at hSw); go_simp; try with_reducible rfl)
          try simp only [Act.put, List.getElem_toArray, List.getElem_cons_succ, List.getElem_cons_zero, List.setIfInBounds_toArray, List.set_cons_zero, List.set_cons_succ]
          refine wpAnyH_take (i := 13) (oi := _) (v := ?vr15_1_13) rfl (by kernel_rfl) (by kernel_rfl) (by kernel_rfl) ?hqr15_1_13 (Or.inl ⟨by kernel_rfl, ?hyr15_1_13⟩) (by assumption) ?restr15_1_13
          case hqr15_1_13 => exact fun _ _ _ h => h
          case hyr15_1_13 => (intro w hSw; (try dsimp only at hSw); go_simp; try with_reducible rfl)
          try simp only [Act.put, List.getElem_toArray, List.getElem_cons_succ, List.getElem_cons_zero, List.setIfInBounds_toArray, List.set_cons_zero, List.set_cons_succ]
          refine wpAnyH_ready (rs := [14]) (by kernel_rfl) (by simp) ?_
          refine AllReadyH.cons (o := _) rfl (fun K hK => ?_) AllReadyH.nil
          go_simp
          (go_at_call 58; refine (HLE.out _).mono ?_; rintro e w7 ⟨rfl, hb7⟩)
          try (go_wp2_with fail)
          refine hK.out _ _ ?_ (fun hHr15_2 => ?_)
          · (try dsimp only); (first | assumption | exact hS _ (Bel.refl w5).drew | exact hS _ hB6 | exact hS _ (hB6.then_ hb7))
          clear hK K hHr15_1
          try simp only [Act.put, List.getElem_toArray, List.getElem_cons_succ, List.getElem_cons_zero, List.setIfInBounds_toArray, List.set_cons_zero, List.set_cons_succ]
          refine wpAnyH_take (i := 15) (oi := _) (v := ?vr15_1_15) rfl (by kernel_rfl) (by kernel_rfl) (by kernel_rfl) ?hqr15_1_15 (Or.inl ⟨by kernel_rfl, ?hyr15_1_15⟩) (by assumption) ?restr15_1_15
          case hqr15_1_15 => exact fun _ _ _ h => h
          case hyr15_1_15 => (intro w hSw; (try dsimp only at hSw); go_simp; try with_reducible rfl)
          try simp only [Act.put, List.getElem_toArray, List.getElem_cons_succ, List.getElem_cons_zero, List.setIfInBounds_toArray, List.set_cons_zero, List.set_cons_succ]
          refine wpAnyH_take (i := 16) (oi := _) (v := ?vr15_1_16) rfl (by kernel_rfl) (by kernel_rfl) (by kernel_rfl) ?hqr15_1_16 (Or.inl ⟨by kernel_rfl, ?hyr15_1_16⟩) (by assumption) ?restr15_1_16
          case hqr15_1_16 => exact fun _ _ _ h => h
          case hyr15_1_16 => (intro w hSw; (try dsimp only at hSw); go_simp; try with_reducible rfl)
          try simp only [Act.put, List.getElem_toArray, List.getElem_cons_succ, List.getElem_cons_zero, List.setIfInBounds_toArray, List.set_cons_zero, List.set_cons_succ]
          refine wpAnyH_take (i := 17) (oi := _) (v := ?vr15_1_17) rfl (by kernel_rfl) (by kernel_rfl) (by kernel_rfl) ?hqr15_1_17 (Or.inl ⟨by kernel_rfl, ?hyr15_1_17⟩) (by assumption) ?restr15_1_17
          case hqr15_1_17 => exact fun _ _ _ h => h
          case hyr15_1_17 => (intro w hSw; (try dsimp only at hSw); go_simp; try with_reducible rfl)
          try simp only [Act.put, List.getElem_toArray, List.getElem_cons_succ, List.getElem_cons_zero, List.setIfInBounds_toArray, List.set_cons_zero, List.set_cons_succ]
          refine wpAnyH_take (i := 18) (oi := _) (v := ?vr15_1_18) rfl (by kernel_rfl) (by kernel_rfl) (by kernel_rfl) ?hqr15_1_18 (Or.inl ⟨by kernel_rfl, ?hyr15_1_18⟩) (by assumption) ?restr15_1_18
          case hqr15_1_18 => exact fun _ _ _ h => h
          case hyr15_1_18 => (intro w hSw; (try dsimp only at hSw); go_simp; try with_reducible rfl)
          try simp only [Act.put, List.getElem_toArray, List.getElem_cons_succ, List.getElem_cons_zero, List.setIfInBounds_toArray, List.set_cons_zero, List.set_cons_succ]
          refine wpAnyH_take (i := 19) (oi := _) (v := ?vr15_1_19) rfl (by kernel_rfl) (by kernel_rfl) (by kernel_rfl) ?hqr15_1_19 (Or.inl ⟨by kernel_rfl, ?hyr15_1_19⟩) (by assumption) ?restr15_1_19
          case hqr15_1_19 => exact fun _ _ _ h => h
          case hyr15_1_19 => (intro w hSw; (try dsimp only at hSw); go_simp; try with_reducible rfl)
          try simp only [Act.put, List.getElem_toArray, List.getElem_cons_succ, List.getElem_cons_zero, List.setIfInBounds_toArray, List.set_cons_zero, List.set_cons_succ]
          refine wpAnyH_take (i := 20) (oi := _) (v := ?vr15_1_20) rfl (by kernel_rfl) (by kernel_rfl) (by kernel_rfl) ?hqr15_1_20 (Or.inl ⟨by kernel_rfl, ?hyr15_1_20⟩) (by assumption) ?restr15_1_20
          case hqr15_1_20 => exact fun _ _ _ h => h
          case hyr15_1_20 => (intro w hSw; (try dsimp only at hSw); go_simp; try with_reducible rfl)
          try simp only [Act.put, List.getElem_toArray, List.getElem_cons_succ, List.getElem_cons_zero, List.setIfInBounds_toArray, List.set_cons_zero, List.set_cons_succ]
          refine wpAnyH_done (by kernel_rfl) ?_ _
          refine NoPanic.normal ?_
          have hB7 := (by assumption : _ ∧ _ ∧ _ ∧ Bel w5 _).2.2.2
          go_wp2
          refine wp_region_noPanic ?_
          refine wp_region_held_drew (S := (fun V : World => Bel w5 V)) (by kernel_rfl) ?_ (fun hHr16_0 => ?_)
          · (try dsimp only); (first | assumption | exact hB7.drew)
          refine wpAnyH_take (i := 0) (oi := _) (v := ?vr16_1_0) rfl (by kernel_rfl) (by kernel_rfl) (by kernel_rfl) ?hqr16_1_0 (Or.inl ⟨by kernel_rfl, ?hyr16_1_0⟩) (by assumption) ?restr16_1_0
          case hqr16_1_0 => exact fun _ _ _ h => h
          case hyr16_1_0 => (intro w hSw; (try dsimp only at hSw); go_simp; try with_reducible rfl)
          try simp only [Act.put, List.getElem_toArray, List.getElem_cons_succ, List.getElem_cons_zero, List.setIfInBounds_toArray, List.set_cons_zero, List.set_cons_succ]
          refine wpAnyH_take (i := 1) (oi := _) (v := ?vr16_1_1) rfl (by kernel_rfl) (by kernel_rfl) (by kernel_rfl) ?hqr16_1_1 (Or.inl ⟨by kernel_rfl, ?hyr16_1_1⟩) (by assumption) ?restr16_1_1
          case hqr16_1_1 => exact fun _ _ _ h => h
          case hyr16_1_1 => (intro w hSw; (try dsimp only at hSw); go_simp; try with_reducible rfl)
          try simp only [Act.put, List.getElem_toArray, List.getElem_cons_succ, List.getElem_cons_zero, List.setIfInBounds_toArray, List.set_cons_zero, List.set_cons_succ]
          refine wpAnyH_take (i := 2) (oi := _) (v := ?vr16_1_2) rfl (by kernel_rfl) (by kernel_rfl) (by kernel_rfl) ?hqr16_1_2 (Or.inl ⟨by kernel_rfl, ?hyr16_1_2⟩) (by assumption) ?restr16_1_2
          case hqr16_1_2 => exact fun _ _ _ h => h
          case hyr16_1_2 => (intro w hSw; (try dsimp only at hSw); go_simp; try with_reducible rfl)
          try simp only [Act.put, List.getElem_toArray, List.getElem_cons_succ, List.getElem_cons_zero, List.setIfInBounds_toArray, List.set_cons_zero, List.set_cons_succ]
          refine wpAnyH_take (i := 3) (oi := _) (v := undef) rfl (by kernel_rfl) (by kernel_rfl) (by kernel_rfl) (fun _ _ _ h => h) (Or.inr ⟨by kernel_rfl, rfl⟩) (by assumption) ?restr16_1_3
          try simp only [Act.put, List.getElem_toArray, List.getElem_cons_succ, List.getElem_cons_zero, List.setIfInBounds_toArray, List.set_cons_zero, List.set_cons_succ]
          refine wpAnyH_take (i := 4) (oi := _) (v := undef) rfl (by kernel_rfl) (by kernel_rfl) (by kernel_rfl) (fun _ _ _ h => h) (Or.inr ⟨by kernel_rfl, rfl⟩) (by assumption) ?restr16_1_4
          try simp only [Act.put, List.getElem_toArray, List.getElem_cons_succ, List.getElem_cons_zero, List.setIfInBounds_toArray, List.set_cons_zero, List.set_cons_succ]
          refine wpAnyH_take (i := 5) (oi := _) (v := undef) rfl (by kernel_rfl) (by kernel_rfl) (by kernel_rfl) (fun _ _ _ h => h) (Or.inr ⟨by kernel_rfl, rfl⟩) (by assumption) ?restr16_1_5
          try simp only [Act.put, List.getElem_toArray, List.getElem_cons_succ, List.getElem_cons_zero, List.setIfInBounds_toArray, List.set_cons_zero, List.set_cons_succ]
          refine wpAnyH_take (i := 6) (oi := _) (v := undef) rfl (by kernel_rfl) (by kernel_rfl) (by kernel_rfl) (fun _ _ _ h => h) (Or.inr ⟨by kernel_rfl, rfl⟩) (by assumption) ?restr16_1_6
          try simp only [Act.put, List.getElem_toArray, List.getElem_cons_succ, List.getElem_cons_zero, List.setIfInBounds_toArray, List.set_cons_zero, List.set_cons_succ]
          refine wpAnyH_take (i := 7) (oi := _) (v := undef) rfl (by kernel_rfl) (by kernel_rfl) (by kernel_rfl) (fun _ _ _ h => h) (Or.inr ⟨by kernel_rfl, rfl⟩) (by assumption) ?restr16_1_7
          try simp only [Act.put, List.getElem_toArray, List.getElem_cons_succ, List.getElem_cons_zero, List.setIfInBounds_toArray, List.set_cons_zero, List.set_cons_succ]
          refine wpAnyH_take (i := 8) (oi := _) (v := undef) rfl (by kernel_rfl) (by kernel_rfl) (by kernel_rfl) (fun _ _ _ h => h) (Or.inr ⟨by kernel_rfl, rfl⟩) (by assumption) ?restr16_1_8
          try simp only [Act.put, List.getElem_toArray, List.getElem_cons_succ, List.getElem_cons_zero, List.setIfInBounds_toArray, List.set_cons_zero, List.set_cons_succ]
          refine wpAnyH_take (i := 9) (oi := _) (v := ?vr16_1_9) rfl (by kernel_rfl) (by kernel_rfl) (by kernel_rfl) ?hqr16_1_9 (Or.inl ⟨by kernel_rfl, ?hyr16_1_9⟩) (by assumption) ?restr16_1_9
          case hqr16_1_9 => exact fun _ _ _ h => h
          case hyr16_1_9 => (intro w hSw; (try dsimp only at hSw); go_simp; try with_reducible rfl)
          try simp only [Act.put, List.getElem_toArray, List.getElem_cons_succ, List.getElem_cons_zero, List.setIfInBounds_toArray, List.set_cons_zero, List.set_cons_succ]
          refine wpAnyH_take (i := 10) (oi := _) (v := ?vr16_1_10) rfl (by kernel_rfl) (by kernel_rfl) (by kernel_rfl) ?hqr16_1_10 (Or.inl ⟨by kernel_rfl, ?hyr16_1_10⟩) (by assumption) ?restr16_1_10
          case hqr16_1_10 => exact fun _ _ _ h => h
          case hyr16_1_10 => (intro w hSw; (try dsimp only at hSw); go_simp; try with_reducible rfl)
          try simp only [Act.put, List.getElem_toArray, List.getElem_cons_succ, List.getElem_cons_zero, List.setIfInBounds_toArray, List.set_cons_zero, List.set_cons_succ]
          refine wpAnyH_done (by kernel_rfl) ?_ _
          refine NoPanic.normal ?_
          go_wp2
          go_ret
          exact ⟨by rw [hR2]; rfl, hB5.then_ hB7.drew⟩
end Go.Proofs.YtkklmflclmgjeaaGreatDoor
