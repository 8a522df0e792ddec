/-
  What CodecReads reaches beside the base.
-/
import Derived.Test.YtkklmflclmgjeaaGreatDoorP5
/-
  The codec: the document's value.
-/
set_option linter.unusedVariables false
set_option linter.unusedSimpArgs false
set_option linter.unusedVariables false
set_option linter.unusedSimpArgs false
namespace Go.Proofs.YtkklmflclmgjeaaGreatDoor
open Go.RowKit Go.Shelf Go.Lib

/-- What the document's value hands back. -/
def GivesV (x : Val) (n : Nat) (w : World) (e : Ending) (w' : World) : Prop := e = .returned (.tuple #[.agg #[.int .i64 x.k, .int .i64 x.n, .int .u64 x.u, .string x.b], .int .i64 n]) ∧ Bel w w'
set_option maxRecDepth 100000 in
set_option maxHeartbeats 1000000 in
theorem r4v_nil (w : World) (cn : ByteArray) (ct cz : Int) (cnl : Bool) (A : Option Addr) (c : Nat) : Calls Tryz.prog 73 #[.agg #[.string cn, .int .i64 ct, .int .i64 cz, .bool cnl], .slice A 0 c] w (GivesV noVal 0 w) := by
  have hb0 : Bel w ((w.alloc (.cells #[.string cn, .int .i64 ct, .int .i64 cz, .bool cnl] 44)).alloc (.cells #[.int .i64 0, .int .i64 0, .int .u64 0, .string ⟨#[]⟩] 48)) := ((Bel.refl w).alloc _).alloc _
  go_enter Tryz.func73, Tryz.ntmps73
  go_wp2
  refine bodyPost_ret (v := .tuple #[.agg #[.int .i64 0, .int .i64 0, .int .u64 0, .string ⟨#[]⟩], .int .i64 0]) (by simp [results, Tryz.results73, go_sem]) rfl ⟨rfl, ?_⟩
  exact by (repeat (first | exact Below.refl _ _ | assumption | exact Bel.refl _ | refine Bel.alloc ?_ _ | refine Bel.drew ?_ | refine Bel.drewN ?_ _ | refine Bel.then_ ?_ (by assumption) | refine Bel.setCell ?_ (by first | (simp; done) | (simp; omega)) _))
set_option maxRecDepth 100000 in
set_option maxHeartbeats 1000000 in
theorem r4v_bad (w : World) (cn : ByteArray) (ct cz : Int) (cnl : Bool) (ab ao n c : Nat) (d : Nat) (hd : w.cell? ⟨ab, ao, none⟩ = some (.int .u8 d)) (hn : 1 ≤ n) (h1 : 1 < d) : Calls Tryz.prog 73 #[.agg #[.string cn, .int .i64 ct, .int .i64 cz, .bool cnl], .slice (some ⟨ab, ao, none⟩) n c] w (GivesV noVal 0 w) := by
  have hlt : ab < w.heap.size := World.block_lt_of_cell? (w := w) (a := ⟨ab, ao, none⟩) hd
  have hn0 : ((n : Int) == 0) = false := by rw [beq_eq_false_iff_ne]; omega
  have hnI : (1 : Int) ≤ n := by omega
  have hdb : decide ((1 : Int) < d) = true := by simp; omega
  have hdc : decide ((d : Int) > 1) = true := by simp; omega
  go_enter Tryz.func73, Tryz.ntmps73
  go_wp2
  refine bodyPost_ret (v := .tuple #[.agg #[.int .i64 0, .int .i64 0, .int .u64 0, .string ⟨#[]⟩], .int .i64 0]) (by simp [results, Tryz.results73, go_sem]) rfl ⟨rfl, ?_⟩
  exact by (repeat (first | exact Below.refl _ _ | assumption | exact Bel.refl _ | refine Bel.alloc ?_ _ | refine Bel.drew ?_ | refine Bel.drewN ?_ _ | refine Bel.then_ ?_ (by assumption) | refine Bel.setCell ?_ (by first | (simp; done) | (simp; omega)) _))
set_option maxRecDepth 100000 in
set_option maxHeartbeats 1000000 in
theorem r4v_nonull (w : World) (cn : ByteArray) (ct cz : Int) (ab ao n c : Nat) (hd : w.cell? ⟨ab, ao, none⟩ = some (.int .u8 0)) (hn : 1 ≤ n) : Calls Tryz.prog 73 #[.agg #[.string cn, .int .i64 ct, .int .i64 cz, .bool false], .slice (some ⟨ab, ao, none⟩) n c] w (GivesV noVal 0 w) := by
  have hlt : ab < w.heap.size := World.block_lt_of_cell? (w := w) (a := ⟨ab, ao, none⟩) hd
  have hn0 : ((n : Int) == 0) = false := by rw [beq_eq_false_iff_ne]; omega
  have hnI : (1 : Int) ≤ n := by omega
  go_enter Tryz.func73, Tryz.ntmps73
  go_wp2
  refine bodyPost_ret (v := .tuple #[.agg #[.int .i64 0, .int .i64 0, .int .u64 0, .string ⟨#[]⟩], .int .i64 0]) (by simp [results, Tryz.results73, go_sem]) rfl ⟨rfl, ?_⟩
  exact by (repeat (first | exact Below.refl _ _ | assumption | exact Bel.refl _ | refine Bel.alloc ?_ _ | refine Bel.drew ?_ | refine Bel.drewN ?_ _ | refine Bel.then_ ?_ (by assumption) | refine Bel.setCell ?_ (by first | (simp; done) | (simp; omega)) _))
set_option maxRecDepth 100000 in
set_option maxHeartbeats 1000000 in
theorem r4v_null (w : World) (cn : ByteArray) (ct cz : Int) (ab ao n c : Nat) (hd : w.cell? ⟨ab, ao, none⟩ = some (.int .u8 0)) (hn : 1 ≤ n) : Calls Tryz.prog 73 #[.agg #[.string cn, .int .i64 ct, .int .i64 cz, .bool true], .slice (some ⟨ab, ao, none⟩) n c] w (GivesV noVal 1 w) := by
  have hlt : ab < w.heap.size := World.block_lt_of_cell? (w := w) (a := ⟨ab, ao, none⟩) hd
  have hn0 : ((n : Int) == 0) = false := by rw [beq_eq_false_iff_ne]; omega
  have hnI : (1 : Int) ≤ n := by omega
  go_enter Tryz.func73, Tryz.ntmps73
  go_wp2
  refine bodyPost_ret (v := .tuple #[.agg #[.int .i64 0, .int .i64 0, .int .u64 0, .string ⟨#[]⟩], .int .i64 1]) (by simp [results, Tryz.results73, go_sem]) rfl ⟨rfl, ?_⟩
  exact by (repeat (first | exact Below.refl _ _ | assumption | exact Bel.refl _ | refine Bel.alloc ?_ _ | refine Bel.drew ?_ | refine Bel.drewN ?_ _ | refine Bel.then_ ?_ (by assumption) | refine Bel.setCell ?_ (by first | (simp; done) | (simp; omega)) _))
set_option maxRecDepth 100000 in
set_option maxHeartbeats 1000000 in
theorem r4v_short1 (w : World) (cn : ByteArray) (cnl : Bool) (ab ao n c : Nat) (hd : w.cell? ⟨ab, ao, none⟩ = some (.int .u8 1)) (hn : 1 ≤ n) (hcn : n ≤ c) (hmx : c ≤ maxLen) (z : Nat) (hz : z ≤ 8) (hq : n - 1 < z) : Calls Tryz.prog 73 #[.agg #[.string cn, .int .i64 1, .int .i64 z, .bool cnl], .slice (some ⟨ab, ao, none⟩) n c] w (GivesV noVal 0 w) := by
  have hlt : ab < w.heap.size := World.block_lt_of_cell? (w := w) (a := ⟨ab, ao, none⟩) hd
  have hn0 : ((n : Int) == 0) = false := by rw [beq_eq_false_iff_ne]; omega
  have hnI : (1 : Int) ≤ n := by omega
  have hnc : (n : Int) ≤ c := by omega
  have hcm : (c : Int) ≤ 9223372036854775807 := by unfold maxLen at hmx; omega
  have hI4 : ((n : Int) - 1).toNat = n - 1 := by omega
  have hI5 : ((c : Int) - 1).toNat = c - 1 := by omega
  have hqb : ((n - 1 : Nat) : Int) < z := by omega
  have hqz : (z : Int) ≤ 8 := by omega
  clear hmx hq hcn
  by_cases hc1 : c = 1
  · subst hc1
    obtain rfl : n = 1 := by omega
    go_enter Tryz.func73, Tryz.ntmps73
    go_wp2
    refine bodyPost_ret (v := .tuple #[.agg #[.int .i64 0, .int .i64 0, .int .u64 0, .string ⟨#[]⟩], .int .i64 0]) (by simp [results, Tryz.results73, go_sem]) rfl ⟨rfl, ?_⟩
    exact by (repeat (first | exact Below.refl _ _ | assumption | exact Bel.refl _ | refine Bel.alloc ?_ _ | refine Bel.drew ?_ | refine Bel.drewN ?_ _ | refine Bel.then_ ?_ (by assumption) | refine Bel.setCell ?_ (by first | (simp; done) | (simp; omega)) _))

  · go_enter Tryz.func73, Tryz.ntmps73
    go_wp2
    refine bodyPost_ret (v := .tuple #[.agg #[.int .i64 0, .int .i64 0, .int .u64 0, .string ⟨#[]⟩], .int .i64 0]) (by simp [results, Tryz.results73, go_sem]) rfl ⟨rfl, ?_⟩
    exact by (repeat (first | exact Below.refl _ _ | assumption | exact Bel.refl _ | refine Bel.alloc ?_ _ | refine Bel.drew ?_ | refine Bel.drewN ?_ _ | refine Bel.then_ ?_ (by assumption) | refine Bel.setCell ?_ (by first | (simp; done) | (simp; omega)) _))
set_option maxRecDepth 100000 in
set_option maxHeartbeats 1000000 in
theorem r4v_short2 (w : World) (cn : ByteArray) (cnl : Bool) (ab ao n c : Nat) (hd : w.cell? ⟨ab, ao, none⟩ = some (.int .u8 1)) (hn : 1 ≤ n) (hcn : n ≤ c) (hmx : c ≤ maxLen) (z : Nat) (hz : z ≤ 8) (hq : n - 1 < z) : Calls Tryz.prog 73 #[.agg #[.string cn, .int .i64 2, .int .i64 z, .bool cnl], .slice (some ⟨ab, ao, none⟩) n c] w (GivesV noVal 0 w) := by
  have hlt : ab < w.heap.size := World.block_lt_of_cell? (w := w) (a := ⟨ab, ao, none⟩) hd
  have hn0 : ((n : Int) == 0) = false := by rw [beq_eq_false_iff_ne]; omega
  have hnI : (1 : Int) ≤ n := by omega
  have hnc : (n : Int) ≤ c := by omega
  have hcm : (c : Int) ≤ 9223372036854775807 := by unfold maxLen at hmx; omega
  have hI4 : ((n : Int) - 1).toNat = n - 1 := by omega
  have hI5 : ((c : Int) - 1).toNat = c - 1 := by omega
  have hqb : ((n - 1 : Nat) : Int) < z := by omega
  have hqz : (z : Int) ≤ 8 := by omega
  clear hmx hq hcn
  by_cases hc1 : c = 1
  · subst hc1
    obtain rfl : n = 1 := by omega
    go_enter Tryz.func73, Tryz.ntmps73
    go_wp2
    refine bodyPost_ret (v := .tuple #[.agg #[.int .i64 0, .int .i64 0, .int .u64 0, .string ⟨#[]⟩], .int .i64 0]) (by simp [results, Tryz.results73, go_sem]) rfl ⟨rfl, ?_⟩
    exact by (repeat (first | exact Below.refl _ _ | assumption | exact Bel.refl _ | refine Bel.alloc ?_ _ | refine Bel.drew ?_ | refine Bel.drewN ?_ _ | refine Bel.then_ ?_ (by assumption) | refine Bel.setCell ?_ (by first | (simp; done) | (simp; omega)) _))

  · go_enter Tryz.func73, Tryz.ntmps73
    go_wp2
    refine bodyPost_ret (v := .tuple #[.agg #[.int .i64 0, .int .i64 0, .int .u64 0, .string ⟨#[]⟩], .int .i64 0]) (by simp [results, Tryz.results73, go_sem]) rfl ⟨rfl, ?_⟩
    exact by (repeat (first | exact Below.refl _ _ | assumption | exact Bel.refl _ | refine Bel.alloc ?_ _ | refine Bel.drew ?_ | refine Bel.drewN ?_ _ | refine Bel.then_ ?_ (by assumption) | refine Bel.setCell ?_ (by first | (simp; done) | (simp; omega)) _))
set_option maxRecDepth 100000 in
set_option maxHeartbeats 1000000 in
theorem r4v_bool0 (w : World) (cn : ByteArray) (cz : Int) (cnl : Bool) (ab ao c : Nat) (hd : w.cell? ⟨ab, ao, none⟩ = some (.int .u8 1)) (hn : 1 ≤ c) (hmx : c ≤ maxLen) : Calls Tryz.prog 73 #[.agg #[.string cn, .int .i64 3, .int .i64 cz, .bool cnl], .slice (some ⟨ab, ao, none⟩) 1 c] w (GivesV noVal 0 w) := by
  have hlt : ab < w.heap.size := World.block_lt_of_cell? (w := w) (a := ⟨ab, ao, none⟩) hd
  have hnc : (1 : Int) ≤ c := by omega
  have hcm : (c : Int) ≤ 9223372036854775807 := by unfold maxLen at hmx; omega
  have hI5 : ((c : Int) - 1).toNat = c - 1 := by omega
  clear hmx hn
  by_cases hc1 : c = 1
  · subst hc1
    go_enter Tryz.func73, Tryz.ntmps73
    go_wp2
    refine bodyPost_ret (v := .tuple #[.agg #[.int .i64 0, .int .i64 0, .int .u64 0, .string ⟨#[]⟩], .int .i64 0]) (by simp [results, Tryz.results73, go_sem]) rfl ⟨rfl, ?_⟩
    exact by (repeat (first | exact Below.refl _ _ | assumption | exact Bel.refl _ | refine Bel.alloc ?_ _ | refine Bel.drew ?_ | refine Bel.drewN ?_ _ | refine Bel.then_ ?_ (by assumption) | refine Bel.setCell ?_ (by first | (simp; done) | (simp; omega)) _))

  · go_enter Tryz.func73, Tryz.ntmps73
    go_wp2
    refine bodyPost_ret (v := .tuple #[.agg #[.int .i64 0, .int .i64 0, .int .u64 0, .string ⟨#[]⟩], .int .i64 0]) (by simp [results, Tryz.results73, go_sem]) rfl ⟨rfl, ?_⟩
    exact by (repeat (first | exact Below.refl _ _ | assumption | exact Bel.refl _ | refine Bel.alloc ?_ _ | refine Bel.drew ?_ | refine Bel.drewN ?_ _ | refine Bel.then_ ?_ (by assumption) | refine Bel.setCell ?_ (by first | (simp; done) | (simp; omega)) _))
set_option maxRecDepth 100000 in
set_option maxHeartbeats 1000000 in
theorem r4v_boolBad (w : World) (cn : ByteArray) (cz : Int) (cnl : Bool) (ab ao n c : Nat) (hd : w.cell? ⟨ab, ao, none⟩ = some (.int .u8 1)) (hn : 2 ≤ n) (hcn : n ≤ c) (hmx : c ≤ maxLen) (e : Nat) (he : w.cell? ⟨ab, ao + 1, none⟩ = some (.int .u8 e)) (h1 : 1 < e) : Calls Tryz.prog 73 #[.agg #[.string cn, .int .i64 3, .int .i64 cz, .bool cnl], .slice (some ⟨ab, ao, none⟩) n c] w (GivesV noVal 0 w) := by
  have hlt : ab < w.heap.size := World.block_lt_of_cell? (w := w) (a := ⟨ab, ao, none⟩) hd
  have hn0 : ((n : Int) == 0) = false := by rw [beq_eq_false_iff_ne]; omega
  have hnJ : (2 : Int) ≤ n := by omega
  have hnI : (1 : Int) ≤ n := by omega
  have hnc : (n : Int) ≤ c := by omega
  have hcm : (c : Int) ≤ 9223372036854775807 := by unfold maxLen at hmx; omega
  have hI4 : ((n : Int) - 1).toNat = n - 1 := by omega
  have hI5 : ((c : Int) - 1).toNat = c - 1 := by omega
  have hc1 : ¬ c = 1 := by omega
  have hq0 : (((n - 1 : Nat) : Int) == 0) = false := by rw [beq_eq_false_iff_ne]; omega
  have hq1 : (1 : Int) ≤ ((n - 1 : Nat) : Int) := by omega
  have hdb : decide ((1 : Int) < e) = true := by simp; omega
  have hdc : decide ((e : Int) > 1) = true := by simp; omega
  clear hmx hcn
  go_enter Tryz.func73, Tryz.ntmps73
  go_wp2
  refine bodyPost_ret (v := .tuple #[.agg #[.int .i64 0, .int .i64 0, .int .u64 0, .string ⟨#[]⟩], .int .i64 0]) (by simp [results, Tryz.results73, go_sem]) rfl ⟨rfl, ?_⟩
  exact by (repeat (first | exact Below.refl _ _ | assumption | exact Bel.refl _ | refine Bel.alloc ?_ _ | refine Bel.drew ?_ | refine Bel.drewN ?_ _ | refine Bel.then_ ?_ (by assumption) | refine Bel.setCell ?_ (by first | (simp; done) | (simp; omega)) _))
set_option maxRecDepth 100000 in
set_option maxHeartbeats 1000000 in
theorem r4v_bool (w : World) (cn : ByteArray) (cz : Int) (cnl : Bool) (ab ao n c : Nat) (hd : w.cell? ⟨ab, ao, none⟩ = some (.int .u8 1)) (hn : 2 ≤ n) (hcn : n ≤ c) (hmx : c ≤ maxLen) (e : Nat) (he : w.cell? ⟨ab, ao + 1, none⟩ = some (.int .u8 e)) (h1 : e ≤ 1) : Calls Tryz.prog 73 #[.agg #[.string cn, .int .i64 3, .int .i64 cz, .bool cnl], .slice (some ⟨ab, ao, none⟩) n c] w (GivesV ⟨3, e, 0, ⟨#[]⟩⟩ 2 w) := by
  have hlt : ab < w.heap.size := World.block_lt_of_cell? (w := w) (a := ⟨ab, ao, none⟩) hd
  have hn0 : ((n : Int) == 0) = false := by rw [beq_eq_false_iff_ne]; omega
  have hnJ : (2 : Int) ≤ n := by omega
  have hnI : (1 : Int) ≤ n := by omega
  have hnc : (n : Int) ≤ c := by omega
  have hcm : (c : Int) ≤ 9223372036854775807 := by unfold maxLen at hmx; omega
  have hI4 : ((n : Int) - 1).toNat = n - 1 := by omega
  have hI5 : ((c : Int) - 1).toNat = c - 1 := by omega
  have hc1 : ¬ c = 1 := by omega
  have hq0 : (((n - 1 : Nat) : Int) == 0) = false := by rw [beq_eq_false_iff_ne]; omega
  have hq1 : (1 : Int) ≤ ((n - 1 : Nat) : Int) := by omega
  have hdb : decide ((1 : Int) < e) = false := by simp; omega
  have hdc : decide ((e : Int) > 1) = false := by simp; omega
  have heI : (e : Int) ≤ 1 := by omega
  clear hmx hcn
  go_enter Tryz.func73, Tryz.ntmps73
  go_wp2
  refine bodyPost_ret (v := .tuple #[.agg #[.int .i64 3, .int .i64 e, .int .u64 0, .string ⟨#[]⟩], .int .i64 2]) (by simp [results, Tryz.results73, go_sem]) rfl ⟨rfl, ?_⟩
  exact by (repeat (first | exact Below.refl _ _ | assumption | exact Bel.refl _ | refine Bel.alloc ?_ _ | refine Bel.drew ?_ | refine Bel.drewN ?_ _ | refine Bel.then_ ?_ (by assumption) | refine Bel.setCell ?_ (by first | (simp; done) | (simp; omega)) _))
set_option maxRecDepth 100000 in
set_option maxHeartbeats 1000000 in
theorem r4v_uint (w : World) (cn : ByteArray) (cnl : Bool) (ab ao n c : Nat) (hd : w.cell? ⟨ab, ao, none⟩ = some (.int .u8 1)) (hn : 2 ≤ n) (hcn : n ≤ c) (hmx : c ≤ maxLen) (z : Nat) (h1 : 1 ≤ z) (h8 : z ≤ 8) (q : List UInt8) (hz : z ≤ q.length) (hzn : z ≤ n - 1) (hrq : Reads w w.heap.size 1 (some ⟨ab, ao + 1, none⟩) q.length (q.map bv)) : Calls Tryz.prog 73 #[.agg #[.string cn, .int .i64 2, .int .i64 z, .bool cnl], .slice (some ⟨ab, ao, none⟩) n c] w (GivesV ⟨2, 0, numN (q.take z), ⟨#[]⟩⟩ (1 + z) w) := by
  have hb0 : Bel w ((w.alloc (.cells #[.string cn, .int .i64 2, .int .i64 z, .bool cnl] 44)).alloc (.cells #[.int .i64 0, .int .i64 0, .int .u64 0, .string ⟨#[]⟩] 48)) := ((Bel.refl w).alloc _).alloc _
  have hl : (q.take z).length = z := by rw [List.length_take]; omega
  have HRF := Lib.hid (fun cap (hr : Reads ((w.alloc (.cells #[.string cn, .int .i64 2, .int .i64 z, .bool cnl] 44)).alloc (.cells #[.int .i64 0, .int .i64 0, .int .u64 0, .string ⟨#[]⟩] 48)) ((w.alloc (.cells #[.string cn, .int .i64 2, .int .i64 z, .bool cnl] 44)).alloc (.cells #[.int .i64 0, .int .i64 0, .int .u64 0, .string ⟨#[]⟩] 48)).heap.size 1 (some ⟨ab, ao + 1, none⟩) (q.take z).length ((q.take z).map bv)) => r2ReadFixed_any (q.take z) (some ⟨ab, ao + 1, none⟩) cap (by omega) (by omega) ((w.alloc (.cells #[.string cn, .int .i64 2, .int .i64 z, .bool cnl] 44)).alloc (.cells #[.int .i64 0, .int .i64 0, .int .u64 0, .string ⟨#[]⟩] 48)) hr)
  have hrw := (hrq.head z hz).belH hb0
  rw [hl] at HRF
  have HRW := Lib.hid hrw
  clear hrw hrq
  have hlt : ab < w.heap.size := World.block_lt_of_cell? (w := w) (a := ⟨ab, ao, none⟩) hd
  have hn0 : ((n : Int) == 0) = false := by rw [beq_eq_false_iff_ne]; omega
  have hnJ : (2 : Int) ≤ n := by omega
  have hnI : (1 : Int) ≤ n := by omega
  have hnc : (n : Int) ≤ c := by omega
  have hcm : (c : Int) ≤ 9223372036854775807 := by unfold maxLen at hmx; omega
  have hI4 : ((n : Int) - 1).toNat = n - 1 := by omega
  have hI5 : ((c : Int) - 1).toNat = c - 1 := by omega
  have hc1 : ¬ c = 1 := by omega
  have hq0 : (((n - 1 : Nat) : Int) == 0) = false := by rw [beq_eq_false_iff_ne]; omega
  have hq1 : (1 : Int) ≤ ((n - 1 : Nat) : Int) := by omega
  have hzI : (z : Int) ≤ ((n - 1 : Nat) : Int) := by omega
  have hzJ : (z : Int) ≤ 8 := by omega
  have hzK : (z : Int) ≤ ((c - 1 : Nat) : Int) := by omega
  have hzL : (1 : Int) ≤ z := by omega
  have hcz : IntKind.i64.wrap (1 + (z : Int)) = ((1 + z : Nat) : Int) := by
    simp only [IntKind.wrap, IntKind.bits, IntKind.signed]
    simp
    omega
  have hzd : decide (n - 1 < z) = false := by simp; omega
  clear hmx hcn hl hz h1 h8
  generalize numN (q.take z) = N at *
  go_enter Tryz.func73, Tryz.ntmps73
  go_wp2_with fail
  refine (HRF.out _ HRW.out).mono ?_
  rintro e w' ⟨rfl, rfl⟩
  go_wp2
  refine wp_region_noPanic ?_
  refine wp_region_held_drew (S := (fun V : World => V.cell? ⟨w.heap.size, 2, none⟩ = some (.int .i64 z))) (by kernel_rfl) ?_ (fun hHr1_0 => ?_)
  · (try dsimp only); (first | assumption | go_simp)
  refine wpAnyH_take (i := 0) (oi := _) (v := ?vr1_1_0) rfl (by kernel_rfl) (by kernel_rfl) (by kernel_rfl) ?hqr1_1_0 (Or.inl ⟨by kernel_rfl, ?hyr1_1_0⟩) (by assumption) ?restr1_1_0
  case hqr1_1_0 => exact fun _ _ _ h => h
  case hyr1_1_0 => (intro w hSw; (try dsimp only at hSw); go_simp; try with_reducible rfl)
  try simp only [Act.put, List.getElem_toArray, List.getElem_cons_succ, List.getElem_cons_zero, List.setIfInBounds_toArray, List.set_cons_zero, List.set_cons_succ]
  refine wpAnyH_take (i := 1) (oi := _) (v := ?vr1_1_1) rfl (by kernel_rfl) (by kernel_rfl) (by kernel_rfl) ?hqr1_1_1 (Or.inl ⟨by kernel_rfl, ?hyr1_1_1⟩) (by assumption) ?restr1_1_1
  case hqr1_1_1 => exact fun _ _ _ h => h
  case hyr1_1_1 => (intro w hSw; (try dsimp only at hSw); go_simp; try with_reducible rfl)
  try simp only [Act.put, List.getElem_toArray, List.getElem_cons_succ, List.getElem_cons_zero, List.setIfInBounds_toArray, List.set_cons_zero, List.set_cons_succ]
  refine wpAnyH_take (i := 2) (oi := _) (v := ?vr1_1_2) rfl (by kernel_rfl) (by kernel_rfl) (by kernel_rfl) ?hqr1_1_2 (Or.inl ⟨by kernel_rfl, ?hyr1_1_2⟩) (by assumption) ?restr1_1_2
  case hqr1_1_2 => exact fun _ _ _ h => h
  case hyr1_1_2 => (intro w hSw; (try dsimp only at hSw); go_simp; try with_reducible rfl)
  try simp only [Act.put, List.getElem_toArray, List.getElem_cons_succ, List.getElem_cons_zero, List.setIfInBounds_toArray, List.set_cons_zero, List.set_cons_succ]
  refine wpAnyH_take (i := 3) (oi := _) (v := ?vr1_1_3) rfl (by kernel_rfl) (by kernel_rfl) (by kernel_rfl) ?hqr1_1_3 (Or.inl ⟨by kernel_rfl, ?hyr1_1_3⟩) (by assumption) ?restr1_1_3
  case hqr1_1_3 => exact fun _ _ _ h => h
  case hyr1_1_3 => (intro w hSw; (try dsimp only at hSw); go_simp; try with_reducible rfl)
  try simp only [Act.put, List.getElem_toArray, List.getElem_cons_succ, List.getElem_cons_zero, List.setIfInBounds_toArray, List.set_cons_zero, List.set_cons_succ]
  refine wpAnyH_take (i := 4) (oi := _) (v := ?vr1_1_4) rfl (by kernel_rfl) (by kernel_rfl) (by kernel_rfl) ?hqr1_1_4 (Or.inl ⟨by kernel_rfl, ?hyr1_1_4⟩) (by assumption) ?restr1_1_4
  case hqr1_1_4 => exact fun _ _ _ h => h
  case hyr1_1_4 => (intro w hSw; (try dsimp only at hSw); go_simp; try with_reducible rfl)
  try simp only [Act.put, List.getElem_toArray, List.getElem_cons_succ, List.getElem_cons_zero, List.setIfInBounds_toArray, List.set_cons_zero, List.set_cons_succ]
  refine wpAnyH_ready (rs := [5]) (by kernel_rfl) (by simp) ?_
  refine AllReadyH.cons (o := _) rfl (fun K hK => ?_) AllReadyH.nil
  go_simp
  refine hK.out _ _ ?_ (fun hHr1_1 => ?_)
  · (try dsimp only); (first | assumption | go_simp)
  clear hK K hHr1_0
  try simp only [Act.put, List.getElem_toArray, List.getElem_cons_succ, List.getElem_cons_zero, List.setIfInBounds_toArray, List.set_cons_zero, List.set_cons_succ]
  refine wpAnyH_ready (rs := [6]) (by kernel_rfl) (by simp) ?_
  refine AllReadyH.cons (o := _) rfl (fun K hK => ?_) AllReadyH.nil
  go_simp
  refine hK.out _ _ ?_ (fun hHr1_2 => ?_)
  · (try dsimp only); (first | assumption | go_simp)
  clear hK K hHr1_1
  try simp only [Act.put, List.getElem_toArray, List.getElem_cons_succ, List.getElem_cons_zero, List.setIfInBounds_toArray, List.set_cons_zero, List.set_cons_succ]
  refine wpAnyH_done (by kernel_rfl) ?_ _
  refine NoPanic.normal ?_
  go_wp2
  refine bodyPost_ret (v := .tuple #[.agg #[.int .i64 2, .int .i64 0, .int .u64 N, .string ⟨#[]⟩], .int .i64 ((1 + z : Nat) : Int)]) (by simp [results, Tryz.results73, go_sem]) rfl ⟨rfl, ?_⟩
  exact by (repeat (first | exact Below.refl _ _ | assumption | exact Bel.refl _ | refine Bel.alloc ?_ _ | refine Bel.drew ?_ | refine Bel.drewN ?_ _ | refine Bel.then_ ?_ (by assumption) | refine Bel.setCell ?_ (by first | (simp; done) | (simp; omega)) _))
theorem r4v_sorry : True := trivial
end Go.Proofs.YtkklmflclmgjeaaGreatDoor

/-
  The codec: the document's value: numbers with a sign.
-/
set_option linter.unusedVariables false
set_option linter.unusedSimpArgs false
set_option linter.unusedVariables false
set_option linter.unusedSimpArgs false
namespace Go.Proofs.YtkklmflclmgjeaaGreatDoor
open Go.RowKit Go.Shelf Go.Lib

set_option maxRecDepth 100000 in
set_option maxHeartbeats 1000000 in
theorem r4v_int1neg (w : World) (cn : ByteArray) (cnl : Bool) (ab ao n c : Nat) (hd : w.cell? ⟨ab, ao, none⟩ = some (.int .u8 1)) (hn : 2 ≤ n) (hcn : n ≤ c) (hmx : c ≤ maxLen) (e : Nat) (he : w.cell? ⟨ab, ao + 1, none⟩ = some (.int .u8 e)) (q : List UInt8) (hz : 1 ≤ q.length) (hzn : 1 ≤ n - 1) (hrq : Reads w w.heap.size 1 (some ⟨ab, ao + 1, none⟩) q.length (q.map bv)) (h1 : 128 ≤ e) : Calls Tryz.prog 73 #[.agg #[.string cn, .int .i64 1, .int .i64 1, .bool cnl], .slice (some ⟨ab, ao, none⟩) n c] w (GivesV ⟨1, (numN (q.take 1) : Int) - 256, 0, ⟨#[]⟩⟩ 2 w) := by
  have hb0 : Bel w ((w.alloc (.cells #[.string cn, .int .i64 1, .int .i64 1, .bool cnl] 44)).alloc (.cells #[.int .i64 0, .int .i64 0, .int .u64 0, .string ⟨#[]⟩] 48)) := ((Bel.refl w).alloc _).alloc _
  have hl : (q.take 1).length = 1 := by rw [List.length_take]; omega
  have HRF := Lib.hid (fun cap (hr : Reads ((w.alloc (.cells #[.string cn, .int .i64 1, .int .i64 1, .bool cnl] 44)).alloc (.cells #[.int .i64 0, .int .i64 0, .int .u64 0, .string ⟨#[]⟩] 48)) ((w.alloc (.cells #[.string cn, .int .i64 1, .int .i64 1, .bool cnl] 44)).alloc (.cells #[.int .i64 0, .int .i64 0, .int .u64 0, .string ⟨#[]⟩] 48)).heap.size 1 (some ⟨ab, ao + 1, none⟩) (q.take 1).length ((q.take 1).map bv)) => r2ReadFixed_any (q.take 1) (some ⟨ab, ao + 1, none⟩) cap (by omega) (by omega) ((w.alloc (.cells #[.string cn, .int .i64 1, .int .i64 1, .bool cnl] 44)).alloc (.cells #[.int .i64 0, .int .i64 0, .int .u64 0, .string ⟨#[]⟩] 48)) hr)
  have hrw := (hrq.head 1 hz).belH hb0
  rw [hl] at HRF
  have HRW := Lib.hid hrw
  clear hrw hrq
  have hlt : ab < w.heap.size := World.block_lt_of_cell? (w := w) (a := ⟨ab, ao, none⟩) hd
  have hn0 : ((n : Int) == 0) = false := by rw [beq_eq_false_iff_ne]; omega
  have hnJ : (2 : Int) ≤ n := by omega
  have hnI : (1 : Int) ≤ n := by omega
  have hnc : (n : Int) ≤ c := by omega
  have hcm : (c : Int) ≤ 9223372036854775807 := by unfold maxLen at hmx; omega
  have hI4 : ((n : Int) - 1).toNat = n - 1 := by omega
  have hI5 : ((c : Int) - 1).toNat = c - 1 := by omega
  have hc1 : ¬ c = 1 := by omega
  have hq0 : (((n - 1 : Nat) : Int) == 0) = false := by rw [beq_eq_false_iff_ne]; omega
  have hq1 : (1 : Int) ≤ ((n - 1 : Nat) : Int) := by omega
  have hzI : (1 : Int) ≤ ((n - 1 : Nat) : Int) := by omega
  have hzK : (1 : Int) ≤ ((c - 1 : Nat) : Int) := by omega
  have hlN := numN_lt (q.take 1)
  rw [hl] at hlN
  generalize numN (q.take 1) = N at *
  rw [show (256 : Nat) ^ 1 = 256 by decide] at hlN
  have hNI : (N : Int) ≤ 255 := by omega
  have hcv : IntKind.i64.wrap (N : Int) = N := by
    simp only [IntKind.wrap, IntKind.bits, IntKind.signed]
    simp
    omega
  have hsb : IntKind.i64.wrap ((N : Int) - 256) = (N : Int) - 256 := by
    simp only [IntKind.wrap, IntKind.bits, IntKind.signed]
    simp
    omega
  have hdb : decide ((128 : Int) ≤ e) = true := by simp; omega
  have hdc : decide ((e : Int) ≥ 128) = true := by simp; omega
  have hzd : decide (n - 1 < 1) = false := by simp; omega
  have hw1 : IntKind.i64.wrap 2 = 2 := by decide
  have hsh : IntKind.i64.wrap (2 ^ min (IntKind.u64.wrap (IntKind.i64.wrap 8)).toNat 64) = 256 := by decide
  clear hmx hcn hl hz hlN
  go_enter Tryz.func73, Tryz.ntmps73
  go_wp2_with fail
  refine (HRF.out _ HRW.out).mono ?_
  rintro e w' ⟨rfl, rfl⟩
  go_wp2
  refine wp_region_noPanic ?_
  refine wp_region_held_drew (S := (fun V : World => V.cell? ⟨w.heap.size, 2, none⟩ = some (.int .i64 1))) (by kernel_rfl) ?_ (fun hHr1_0 => ?_)
  · (try dsimp only); (first | assumption | go_simp)
  refine wpAnyH_take (i := 0) (oi := _) (v := ?vr1_1_0) rfl (by kernel_rfl) (by kernel_rfl) (by kernel_rfl) ?hqr1_1_0 (Or.inl ⟨by kernel_rfl, ?hyr1_1_0⟩) (by assumption) ?restr1_1_0
  case hqr1_1_0 => exact fun _ _ _ h => h
  case hyr1_1_0 => (intro w hSw; (try dsimp only at hSw); go_simp; try with_reducible rfl)
  try simp only [Act.put, List.getElem_toArray, List.getElem_cons_succ, List.getElem_cons_zero, List.setIfInBounds_toArray, List.set_cons_zero, List.set_cons_succ]
  refine wpAnyH_take (i := 1) (oi := _) (v := ?vr1_1_1) rfl (by kernel_rfl) (by kernel_rfl) (by kernel_rfl) ?hqr1_1_1 (Or.inl ⟨by kernel_rfl, ?hyr1_1_1⟩) (by assumption) ?restr1_1_1
  case hqr1_1_1 => exact fun _ _ _ h => h
  case hyr1_1_1 => (intro w hSw; (try dsimp only at hSw); go_simp; try with_reducible rfl)
  try simp only [Act.put, List.getElem_toArray, List.getElem_cons_succ, List.getElem_cons_zero, List.setIfInBounds_toArray, List.set_cons_zero, List.set_cons_succ]
  refine wpAnyH_take (i := 2) (oi := _) (v := ?vr1_1_2) rfl (by kernel_rfl) (by kernel_rfl) (by kernel_rfl) ?hqr1_1_2 (Or.inl ⟨by kernel_rfl, ?hyr1_1_2⟩) (by assumption) ?restr1_1_2
  case hqr1_1_2 => exact fun _ _ _ h => h
  case hyr1_1_2 => (intro w hSw; (try dsimp only at hSw); go_simp; try with_reducible rfl)
  try simp only [Act.put, List.getElem_toArray, List.getElem_cons_succ, List.getElem_cons_zero, List.setIfInBounds_toArray, List.set_cons_zero, List.set_cons_succ]
  refine wpAnyH_take (i := 3) (oi := _) (v := ?vr1_1_3) rfl (by kernel_rfl) (by kernel_rfl) (by kernel_rfl) ?hqr1_1_3 (Or.inl ⟨by kernel_rfl, ?hyr1_1_3⟩) (by assumption) ?restr1_1_3
  case hqr1_1_3 => exact fun _ _ _ h => h
  case hyr1_1_3 => (intro w hSw; (try dsimp only at hSw); go_simp; try with_reducible rfl)
  try simp only [Act.put, List.getElem_toArray, List.getElem_cons_succ, List.getElem_cons_zero, List.setIfInBounds_toArray, List.set_cons_zero, List.set_cons_succ]
  refine wpAnyH_take (i := 4) (oi := _) (v := ?vr1_1_4) rfl (by kernel_rfl) (by kernel_rfl) (by kernel_rfl) ?hqr1_1_4 (Or.inl ⟨by kernel_rfl, ?hyr1_1_4⟩) (by assumption) ?restr1_1_4
  case hqr1_1_4 => exact fun _ _ _ h => h
  case hyr1_1_4 => (intro w hSw; (try dsimp only at hSw); go_simp; try with_reducible rfl)
  try simp only [Act.put, List.getElem_toArray, List.getElem_cons_succ, List.getElem_cons_zero, List.setIfInBounds_toArray, List.set_cons_zero, List.set_cons_succ]
  refine wpAnyH_take (i := 5) (oi := _) (v := ?vr1_1_5) rfl (by kernel_rfl) (by kernel_rfl) (by kernel_rfl) ?hqr1_1_5 (Or.inl ⟨by kernel_rfl, ?hyr1_1_5⟩) (by assumption) ?restr1_1_5
  case hqr1_1_5 => exact fun _ _ _ h => h
  case hyr1_1_5 => (intro w hSw; (try dsimp only at hSw); go_simp; try with_reducible rfl)
  try simp only [Act.put, List.getElem_toArray, List.getElem_cons_succ, List.getElem_cons_zero, List.setIfInBounds_toArray, List.set_cons_zero, List.set_cons_succ]
  refine wpAnyH_take (i := 6) (oi := _) (v := ?vr1_1_6) rfl (by kernel_rfl) (by kernel_rfl) (by kernel_rfl) ?hqr1_1_6 (Or.inl ⟨by kernel_rfl, ?hyr1_1_6⟩) (by assumption) ?restr1_1_6
  case hqr1_1_6 => exact fun _ _ _ h => h
  case hyr1_1_6 => (intro w hSw; (try dsimp only at hSw); go_simp; try with_reducible rfl)
  try simp only [Act.put, List.getElem_toArray, List.getElem_cons_succ, List.getElem_cons_zero, List.setIfInBounds_toArray, List.set_cons_zero, List.set_cons_succ]
  refine wpAnyH_take (i := 7) (oi := _) (v := ?vr1_1_7) rfl (by kernel_rfl) (by kernel_rfl) (by kernel_rfl) ?hqr1_1_7 (Or.inl ⟨by kernel_rfl, ?hyr1_1_7⟩) (by assumption) ?restr1_1_7
  case hqr1_1_7 => exact fun _ _ _ h => h
  case hyr1_1_7 => (intro w hSw; (try dsimp only at hSw); go_simp; try with_reducible rfl)
  try simp only [Act.put, List.getElem_toArray, List.getElem_cons_succ, List.getElem_cons_zero, List.setIfInBounds_toArray, List.set_cons_zero, List.set_cons_succ]
  refine wpAnyH_take (i := 8) (oi := _) (v := ?vr1_1_8) rfl (by kernel_rfl) (by kernel_rfl) (by kernel_rfl) ?hqr1_1_8 (Or.inl ⟨by kernel_rfl, ?hyr1_1_8⟩) (by assumption) ?restr1_1_8
  case hqr1_1_8 => exact fun _ _ _ h => h
  case hyr1_1_8 => (intro w hSw; (try dsimp only at hSw); go_simp; try with_reducible rfl)
  try simp only [Act.put, List.getElem_toArray, List.getElem_cons_succ, List.getElem_cons_zero, List.setIfInBounds_toArray, List.set_cons_zero, List.set_cons_succ]
  refine wpAnyH_take (i := 9) (oi := _) (v := ?vr1_1_9) rfl (by kernel_rfl) (by kernel_rfl) (by kernel_rfl) ?hqr1_1_9 (Or.inl ⟨by kernel_rfl, ?hyr1_1_9⟩) (by assumption) ?restr1_1_9
  case hqr1_1_9 => exact fun _ _ _ h => h
  case hyr1_1_9 => (intro w hSw; (try dsimp only at hSw); go_simp; try with_reducible rfl)
  try simp only [Act.put, List.getElem_toArray, List.getElem_cons_succ, List.getElem_cons_zero, List.setIfInBounds_toArray, List.set_cons_zero, List.set_cons_succ]
  refine wpAnyH_take (i := 10) (oi := _) (v := ?vr1_1_10) rfl (by kernel_rfl) (by kernel_rfl) (by kernel_rfl) ?hqr1_1_10 (Or.inl ⟨by kernel_rfl, ?hyr1_1_10⟩) (by assumption) ?restr1_1_10
  case hqr1_1_10 => exact fun _ _ _ h => h
  case hyr1_1_10 => (intro w hSw; (try dsimp only at hSw); go_simp; try with_reducible rfl)
  try simp only [Act.put, List.getElem_toArray, List.getElem_cons_succ, List.getElem_cons_zero, List.setIfInBounds_toArray, List.set_cons_zero, List.set_cons_succ]
  refine wpAnyH_take (i := 11) (oi := _) (v := ?vr1_1_11) rfl (by kernel_rfl) (by kernel_rfl) (by kernel_rfl) ?hqr1_1_11 (Or.inl ⟨by kernel_rfl, ?hyr1_1_11⟩) (by assumption) ?restr1_1_11
  case hqr1_1_11 => exact fun _ _ _ h => h
  case hyr1_1_11 => (intro w hSw; (try dsimp only at hSw); go_simp; try with_reducible rfl)
  try simp only [Act.put, List.getElem_toArray, List.getElem_cons_succ, List.getElem_cons_zero, List.setIfInBounds_toArray, List.set_cons_zero, List.set_cons_succ]
  refine wpAnyH_ready (rs := [12]) (by kernel_rfl) (by simp) ?_
  refine AllReadyH.cons (o := _) rfl (fun K hK => ?_) AllReadyH.nil
  go_simp
  refine hK.out _ _ ?_ (fun hHr1_1 => ?_)
  · (try dsimp only); (first | assumption | go_simp)
  clear hK K hHr1_0
  try simp only [Act.put, List.getElem_toArray, List.getElem_cons_succ, List.getElem_cons_zero, List.setIfInBounds_toArray, List.set_cons_zero, List.set_cons_succ]
  refine wpAnyH_ready (rs := [13]) (by kernel_rfl) (by simp) ?_
  refine AllReadyH.cons (o := _) rfl (fun K hK => ?_) AllReadyH.nil
  go_simp
  refine hK.out _ _ ?_ (fun hHr1_2 => ?_)
  · (try dsimp only); (first | assumption | go_simp)
  clear hK K hHr1_1
  try simp only [Act.put, List.getElem_toArray, List.getElem_cons_succ, List.getElem_cons_zero, List.setIfInBounds_toArray, List.set_cons_zero, List.set_cons_succ]
  refine wpAnyH_done (by kernel_rfl) ?_ _
  refine NoPanic.normal ?_
  go_wp2
  refine bodyPost_ret (v := .tuple #[.agg #[.int .i64 1, .int .i64 ((N : Int) - 256), .int .u64 0, .string ⟨#[]⟩], .int .i64 2]) (by simp [results, Tryz.results73, go_sem, hw1, hcv, hsh, hsb]) rfl ⟨rfl, ?_⟩
  exact by (repeat (first | exact Below.refl _ _ | assumption | exact Bel.refl _ | refine Bel.alloc ?_ _ | refine Bel.drew ?_ | refine Bel.drewN ?_ _ | refine Bel.then_ ?_ (by assumption) | refine Bel.setCell ?_ (by first | (simp; done) | (simp; omega)) _))
set_option maxRecDepth 100000 in
set_option maxHeartbeats 1000000 in
theorem r4v_int1pos (w : World) (cn : ByteArray) (cnl : Bool) (ab ao n c : Nat) (hd : w.cell? ⟨ab, ao, none⟩ = some (.int .u8 1)) (hn : 2 ≤ n) (hcn : n ≤ c) (hmx : c ≤ maxLen) (e : Nat) (he : w.cell? ⟨ab, ao + 1, none⟩ = some (.int .u8 e)) (q : List UInt8) (hz : 1 ≤ q.length) (hzn : 1 ≤ n - 1) (hrq : Reads w w.heap.size 1 (some ⟨ab, ao + 1, none⟩) q.length (q.map bv)) (h1 : e < 128) : Calls Tryz.prog 73 #[.agg #[.string cn, .int .i64 1, .int .i64 1, .bool cnl], .slice (some ⟨ab, ao, none⟩) n c] w (GivesV ⟨1, numN (q.take 1), 0, ⟨#[]⟩⟩ 2 w) := by
  have hb0 : Bel w ((w.alloc (.cells #[.string cn, .int .i64 1, .int .i64 1, .bool cnl] 44)).alloc (.cells #[.int .i64 0, .int .i64 0, .int .u64 0, .string ⟨#[]⟩] 48)) := ((Bel.refl w).alloc _).alloc _
  have hl : (q.take 1).length = 1 := by rw [List.length_take]; omega
  have HRF := Lib.hid (fun cap (hr : Reads ((w.alloc (.cells #[.string cn, .int .i64 1, .int .i64 1, .bool cnl] 44)).alloc (.cells #[.int .i64 0, .int .i64 0, .int .u64 0, .string ⟨#[]⟩] 48)) ((w.alloc (.cells #[.string cn, .int .i64 1, .int .i64 1, .bool cnl] 44)).alloc (.cells #[.int .i64 0, .int .i64 0, .int .u64 0, .string ⟨#[]⟩] 48)).heap.size 1 (some ⟨ab, ao + 1, none⟩) (q.take 1).length ((q.take 1).map bv)) => r2ReadFixed_any (q.take 1) (some ⟨ab, ao + 1, none⟩) cap (by omega) (by omega) ((w.alloc (.cells #[.string cn, .int .i64 1, .int .i64 1, .bool cnl] 44)).alloc (.cells #[.int .i64 0, .int .i64 0, .int .u64 0, .string ⟨#[]⟩] 48)) hr)
  have hrw := (hrq.head 1 hz).belH hb0
  rw [hl] at HRF
  have HRW := Lib.hid hrw
  clear hrw hrq
  have hlt : ab < w.heap.size := World.block_lt_of_cell? (w := w) (a := ⟨ab, ao, none⟩) hd
  have hn0 : ((n : Int) == 0) = false := by rw [beq_eq_false_iff_ne]; omega
  have hnJ : (2 : Int) ≤ n := by omega
  have hnI : (1 : Int) ≤ n := by omega
  have hnc : (n : Int) ≤ c := by omega
  have hcm : (c : Int) ≤ 9223372036854775807 := by unfold maxLen at hmx; omega
  have hI4 : ((n : Int) - 1).toNat = n - 1 := by omega
  have hI5 : ((c : Int) - 1).toNat = c - 1 := by omega
  have hc1 : ¬ c = 1 := by omega
  have hq0 : (((n - 1 : Nat) : Int) == 0) = false := by rw [beq_eq_false_iff_ne]; omega
  have hq1 : (1 : Int) ≤ ((n - 1 : Nat) : Int) := by omega
  have hzI : (1 : Int) ≤ ((n - 1 : Nat) : Int) := by omega
  have hzK : (1 : Int) ≤ ((c - 1 : Nat) : Int) := by omega
  have hlN := numN_lt (q.take 1)
  rw [hl] at hlN
  generalize numN (q.take 1) = N at *
  rw [show (256 : Nat) ^ 1 = 256 by decide] at hlN
  have hNI : (N : Int) ≤ 255 := by omega
  have hcv : IntKind.i64.wrap (N : Int) = N := by
    simp only [IntKind.wrap, IntKind.bits, IntKind.signed]
    simp
    omega
  have hsb : IntKind.i64.wrap ((N : Int) - 256) = (N : Int) - 256 := by
    simp only [IntKind.wrap, IntKind.bits, IntKind.signed]
    simp
    omega
  have hdb : decide ((128 : Int) ≤ e) = false := by simp; omega
  have hdc : decide ((e : Int) ≥ 128) = false := by simp; omega
  have hzd : decide (n - 1 < 1) = false := by simp; omega
  have hw1 : IntKind.i64.wrap 2 = 2 := by decide
  have hsh : IntKind.i64.wrap (2 ^ min (IntKind.u64.wrap (IntKind.i64.wrap 8)).toNat 64) = 256 := by decide
  clear hmx hcn hl hz hlN
  go_enter Tryz.func73, Tryz.ntmps73
  go_wp2_with fail
  refine (HRF.out _ HRW.out).mono ?_
  rintro e w' ⟨rfl, rfl⟩
  go_wp2
  refine wp_region_noPanic ?_
  refine wp_region_held_drew (S := (fun V : World => V.cell? ⟨w.heap.size, 2, none⟩ = some (.int .i64 1))) (by kernel_rfl) ?_ (fun hHr2_0 => ?_)
  · (try dsimp only); (first | assumption | go_simp)
  refine wpAnyH_take (i := 0) (oi := _) (v := ?vr2_1_0) rfl (by kernel_rfl) (by kernel_rfl) (by kernel_rfl) ?hqr2_1_0 (Or.inl ⟨by kernel_rfl, ?hyr2_1_0⟩) (by assumption) ?restr2_1_0
  case hqr2_1_0 => exact fun _ _ _ h => h
  case hyr2_1_0 => (intro w hSw; (try dsimp only at hSw); go_simp; try with_reducible rfl)
  try simp only [Act.put, List.getElem_toArray, List.getElem_cons_succ, List.getElem_cons_zero, List.setIfInBounds_toArray, List.set_cons_zero, List.set_cons_succ]
  refine wpAnyH_take (i := 1) (oi := _) (v := ?vr2_1_1) rfl (by kernel_rfl) (by kernel_rfl) (by kernel_rfl) ?hqr2_1_1 (Or.inl ⟨by kernel_rfl, ?hyr2_1_1⟩) (by assumption) ?restr2_1_1
  case hqr2_1_1 => exact fun _ _ _ h => h
  case hyr2_1_1 => (intro w hSw; (try dsimp only at hSw); go_simp; try with_reducible rfl)
  try simp only [Act.put, List.getElem_toArray, List.getElem_cons_succ, List.getElem_cons_zero, List.setIfInBounds_toArray, List.set_cons_zero, List.set_cons_succ]
  refine wpAnyH_take (i := 2) (oi := _) (v := ?vr2_1_2) rfl (by kernel_rfl) (by kernel_rfl) (by kernel_rfl) ?hqr2_1_2 (Or.inl ⟨by kernel_rfl, ?hyr2_1_2⟩) (by assumption) ?restr2_1_2
  case hqr2_1_2 => exact fun _ _ _ h => h
  case hyr2_1_2 => (intro w hSw; (try dsimp only at hSw); go_simp; try with_reducible rfl)
  try simp only [Act.put, List.getElem_toArray, List.getElem_cons_succ, List.getElem_cons_zero, List.setIfInBounds_toArray, List.set_cons_zero, List.set_cons_succ]
  refine wpAnyH_take (i := 3) (oi := _) (v := ?vr2_1_3) rfl (by kernel_rfl) (by kernel_rfl) (by kernel_rfl) ?hqr2_1_3 (Or.inl ⟨by kernel_rfl, ?hyr2_1_3⟩) (by assumption) ?restr2_1_3
  case hqr2_1_3 => exact fun _ _ _ h => h
  case hyr2_1_3 => (intro w hSw; (try dsimp only at hSw); go_simp; try with_reducible rfl)
  try simp only [Act.put, List.getElem_toArray, List.getElem_cons_succ, List.getElem_cons_zero, List.setIfInBounds_toArray, List.set_cons_zero, List.set_cons_succ]
  refine wpAnyH_take (i := 4) (oi := _) (v := ?vr2_1_4) rfl (by kernel_rfl) (by kernel_rfl) (by kernel_rfl) ?hqr2_1_4 (Or.inl ⟨by kernel_rfl, ?hyr2_1_4⟩) (by assumption) ?restr2_1_4
  case hqr2_1_4 => exact fun _ _ _ h => h
  case hyr2_1_4 => (intro w hSw; (try dsimp only at hSw); go_simp; try with_reducible rfl)
  try simp only [Act.put, List.getElem_toArray, List.getElem_cons_succ, List.getElem_cons_zero, List.setIfInBounds_toArray, List.set_cons_zero, List.set_cons_succ]
  refine wpAnyH_take (i := 5) (oi := _) (v := ?vr2_1_5) rfl (by kernel_rfl) (by kernel_rfl) (by kernel_rfl) ?hqr2_1_5 (Or.inl ⟨by kernel_rfl, ?hyr2_1_5⟩) (by assumption) ?restr2_1_5
  case hqr2_1_5 => exact fun _ _ _ h => h
  case hyr2_1_5 => (intro w hSw; (try dsimp only at hSw); go_simp; try with_reducible rfl)
  try simp only [Act.put, List.getElem_toArray, List.getElem_cons_succ, List.getElem_cons_zero, List.setIfInBounds_toArray, List.set_cons_zero, List.set_cons_succ]
  refine wpAnyH_ready (rs := [6]) (by kernel_rfl) (by simp) ?_
  refine AllReadyH.cons (o := _) rfl (fun K hK => ?_) AllReadyH.nil
  go_simp
  refine hK.out _ _ ?_ (fun hHr2_1 => ?_)
  · (try dsimp only); (first | assumption | go_simp)
  clear hK K hHr2_0
  try simp only [Act.put, List.getElem_toArray, List.getElem_cons_succ, List.getElem_cons_zero, List.setIfInBounds_toArray, List.set_cons_zero, List.set_cons_succ]
  refine wpAnyH_ready (rs := [7]) (by kernel_rfl) (by simp) ?_
  refine AllReadyH.cons (o := _) rfl (fun K hK => ?_) AllReadyH.nil
  go_simp
  refine hK.out _ _ ?_ (fun hHr2_2 => ?_)
  · (try dsimp only); (first | assumption | go_simp)
  clear hK K hHr2_1
  try simp only [Act.put, List.getElem_toArray, List.getElem_cons_succ, List.getElem_cons_zero, List.setIfInBounds_toArray, List.set_cons_zero, List.set_cons_succ]
  refine wpAnyH_done (by kernel_rfl) ?_ _
  refine NoPanic.normal ?_
  go_wp2
  refine bodyPost_ret (v := .tuple #[.agg #[.int .i64 1, .int .i64 N, .int .u64 0, .string ⟨#[]⟩], .int .i64 2]) (by simp [results, Tryz.results73, go_sem, hw1, hcv, hsh, hsb]) rfl ⟨rfl, ?_⟩
  exact by (repeat (first | exact Below.refl _ _ | assumption | exact Bel.refl _ | refine Bel.alloc ?_ _ | refine Bel.drew ?_ | refine Bel.drewN ?_ _ | refine Bel.then_ ?_ (by assumption) | refine Bel.setCell ?_ (by first | (simp; done) | (simp; omega)) _))
set_option maxRecDepth 100000 in
set_option maxHeartbeats 1000000 in
theorem r4v_int2neg (w : World) (cn : ByteArray) (cnl : Bool) (ab ao n c : Nat) (hd : w.cell? ⟨ab, ao, none⟩ = some (.int .u8 1)) (hn : 2 ≤ n) (hcn : n ≤ c) (hmx : c ≤ maxLen) (e : Nat) (he : w.cell? ⟨ab, ao + 1, none⟩ = some (.int .u8 e)) (q : List UInt8) (hz : 2 ≤ q.length) (hzn : 2 ≤ n - 1) (hrq : Reads w w.heap.size 1 (some ⟨ab, ao + 1, none⟩) q.length (q.map bv)) (h1 : 128 ≤ e) : Calls Tryz.prog 73 #[.agg #[.string cn, .int .i64 1, .int .i64 2, .bool cnl], .slice (some ⟨ab, ao, none⟩) n c] w (GivesV ⟨1, (numN (q.take 2) : Int) - 65536, 0, ⟨#[]⟩⟩ 3 w) := by
  have hb0 : Bel w ((w.alloc (.cells #[.string cn, .int .i64 1, .int .i64 2, .bool cnl] 44)).alloc (.cells #[.int .i64 0, .int .i64 0, .int .u64 0, .string ⟨#[]⟩] 48)) := ((Bel.refl w).alloc _).alloc _
  have hl : (q.take 2).length = 2 := by rw [List.length_take]; omega
  have HRF := Lib.hid (fun cap (hr : Reads ((w.alloc (.cells #[.string cn, .int .i64 1, .int .i64 2, .bool cnl] 44)).alloc (.cells #[.int .i64 0, .int .i64 0, .int .u64 0, .string ⟨#[]⟩] 48)) ((w.alloc (.cells #[.string cn, .int .i64 1, .int .i64 2, .bool cnl] 44)).alloc (.cells #[.int .i64 0, .int .i64 0, .int .u64 0, .string ⟨#[]⟩] 48)).heap.size 1 (some ⟨ab, ao + 1, none⟩) (q.take 2).length ((q.take 2).map bv)) => r2ReadFixed_any (q.take 2) (some ⟨ab, ao + 1, none⟩) cap (by omega) (by omega) ((w.alloc (.cells #[.string cn, .int .i64 1, .int .i64 2, .bool cnl] 44)).alloc (.cells #[.int .i64 0, .int .i64 0, .int .u64 0, .string ⟨#[]⟩] 48)) hr)
  have hrw := (hrq.head 2 hz).belH hb0
  rw [hl] at HRF
  have HRW := Lib.hid hrw
  clear hrw hrq
  have hlt : ab < w.heap.size := World.block_lt_of_cell? (w := w) (a := ⟨ab, ao, none⟩) hd
  have hn0 : ((n : Int) == 0) = false := by rw [beq_eq_false_iff_ne]; omega
  have hnJ : (2 : Int) ≤ n := by omega
  have hnI : (1 : Int) ≤ n := by omega
  have hnc : (n : Int) ≤ c := by omega
  have hcm : (c : Int) ≤ 9223372036854775807 := by unfold maxLen at hmx; omega
  have hI4 : ((n : Int) - 1).toNat = n - 1 := by omega
  have hI5 : ((c : Int) - 1).toNat = c - 1 := by omega
  have hc1 : ¬ c = 1 := by omega
  have hq0 : (((n - 1 : Nat) : Int) == 0) = false := by rw [beq_eq_false_iff_ne]; omega
  have hq1 : (1 : Int) ≤ ((n - 1 : Nat) : Int) := by omega
  have hzI : (2 : Int) ≤ ((n - 1 : Nat) : Int) := by omega
  have hzK : (2 : Int) ≤ ((c - 1 : Nat) : Int) := by omega
  have hlN := numN_lt (q.take 2)
  rw [hl] at hlN
  generalize numN (q.take 2) = N at *
  rw [show (256 : Nat) ^ 2 = 65536 by decide] at hlN
  have hNI : (N : Int) ≤ 65535 := by omega
  have hcv : IntKind.i64.wrap (N : Int) = N := by
    simp only [IntKind.wrap, IntKind.bits, IntKind.signed]
    simp
    omega
  have hsb : IntKind.i64.wrap ((N : Int) - 65536) = (N : Int) - 65536 := by
    simp only [IntKind.wrap, IntKind.bits, IntKind.signed]
    simp
    omega
  have hdb : decide ((128 : Int) ≤ e) = true := by simp; omega
  have hdc : decide ((e : Int) ≥ 128) = true := by simp; omega
  have hzd : decide (n - 1 < 2) = false := by simp; omega
  have hw1 : IntKind.i64.wrap 3 = 3 := by decide
  have hsh : IntKind.i64.wrap (2 ^ min (IntKind.u64.wrap (IntKind.i64.wrap 16)).toNat 64) = 65536 := by decide
  clear hmx hcn hl hz hlN
  go_enter Tryz.func73, Tryz.ntmps73
  go_wp2_with fail
  refine (HRF.out _ HRW.out).mono ?_
  rintro e w' ⟨rfl, rfl⟩
  go_wp2
  refine wp_region_noPanic ?_
  refine wp_region_held_drew (S := (fun V : World => V.cell? ⟨w.heap.size, 2, none⟩ = some (.int .i64 2))) (by kernel_rfl) ?_ (fun hHr3_0 => ?_)
  · (try dsimp only); (first | assumption | go_simp)
  refine wpAnyH_take (i := 0) (oi := _) (v := ?vr3_1_0) rfl (by kernel_rfl) (by kernel_rfl) (by kernel_rfl) ?hqr3_1_0 (Or.inl ⟨by kernel_rfl, ?hyr3_1_0⟩) (by assumption) ?restr3_1_0
  case hqr3_1_0 => exact fun _ _ _ h => h
  case hyr3_1_0 => (intro w hSw; (try dsimp only at hSw); go_simp; try with_reducible rfl)
  try simp only [Act.put, List.getElem_toArray, List.getElem_cons_succ, List.getElem_cons_zero, List.setIfInBounds_toArray, List.set_cons_zero, List.set_cons_succ]
  refine wpAnyH_take (i := 1) (oi := _) (v := ?vr3_1_1) rfl (by kernel_rfl) (by kernel_rfl) (by kernel_rfl) ?hqr3_1_1 (Or.inl ⟨by kernel_rfl, ?hyr3_1_1⟩) (by assumption) ?restr3_1_1
  case hqr3_1_1 => exact fun _ _ _ h => h
  case hyr3_1_1 => (intro w hSw; (try dsimp only at hSw); go_simp; try with_reducible rfl)
  try simp only [Act.put, List.getElem_toArray, List.getElem_cons_succ, List.getElem_cons_zero, List.setIfInBounds_toArray, List.set_cons_zero, List.set_cons_succ]
  refine wpAnyH_take (i := 2) (oi := _) (v := ?vr3_1_2) rfl (by kernel_rfl) (by kernel_rfl) (by kernel_rfl) ?hqr3_1_2 (Or.inl ⟨by kernel_rfl, ?hyr3_1_2⟩) (by assumption) ?restr3_1_2
  case hqr3_1_2 => exact fun _ _ _ h => h
  case hyr3_1_2 => (intro w hSw; (try dsimp only at hSw); go_simp; try with_reducible rfl)
  try simp only [Act.put, List.getElem_toArray, List.getElem_cons_succ, List.getElem_cons_zero, List.setIfInBounds_toArray, List.set_cons_zero, List.set_cons_succ]
  refine wpAnyH_take (i := 3) (oi := _) (v := ?vr3_1_3) rfl (by kernel_rfl) (by kernel_rfl) (by kernel_rfl) ?hqr3_1_3 (Or.inl ⟨by kernel_rfl, ?hyr3_1_3⟩) (by assumption) ?restr3_1_3
  case hqr3_1_3 => exact fun _ _ _ h => h
  case hyr3_1_3 => (intro w hSw; (try dsimp only at hSw); go_simp; try with_reducible rfl)
  try simp only [Act.put, List.getElem_toArray, List.getElem_cons_succ, List.getElem_cons_zero, List.setIfInBounds_toArray, List.set_cons_zero, List.set_cons_succ]
  refine wpAnyH_take (i := 4) (oi := _) (v := ?vr3_1_4) rfl (by kernel_rfl) (by kernel_rfl) (by kernel_rfl) ?hqr3_1_4 (Or.inl ⟨by kernel_rfl, ?hyr3_1_4⟩) (by assumption) ?restr3_1_4
  case hqr3_1_4 => exact fun _ _ _ h => h
  case hyr3_1_4 => (intro w hSw; (try dsimp only at hSw); go_simp; try with_reducible rfl)
  try simp only [Act.put, List.getElem_toArray, List.getElem_cons_succ, List.getElem_cons_zero, List.setIfInBounds_toArray, List.set_cons_zero, List.set_cons_succ]
  refine wpAnyH_take (i := 5) (oi := _) (v := ?vr3_1_5) rfl (by kernel_rfl) (by kernel_rfl) (by kernel_rfl) ?hqr3_1_5 (Or.inl ⟨by kernel_rfl, ?hyr3_1_5⟩) (by assumption) ?restr3_1_5
  case hqr3_1_5 => exact fun _ _ _ h => h
  case hyr3_1_5 => (intro w hSw; (try dsimp only at hSw); go_simp; try with_reducible rfl)
  try simp only [Act.put, List.getElem_toArray, List.getElem_cons_succ, List.getElem_cons_zero, List.setIfInBounds_toArray, List.set_cons_zero, List.set_cons_succ]
  refine wpAnyH_take (i := 6) (oi := _) (v := ?vr3_1_6) rfl (by kernel_rfl) (by kernel_rfl) (by kernel_rfl) ?hqr3_1_6 (Or.inl ⟨by kernel_rfl, ?hyr3_1_6⟩) (by assumption) ?restr3_1_6
  case hqr3_1_6 => exact fun _ _ _ h => h
  case hyr3_1_6 => (intro w hSw; (try dsimp only at hSw); go_simp; try with_reducible rfl)
  try simp only [Act.put, List.getElem_toArray, List.getElem_cons_succ, List.getElem_cons_zero, List.setIfInBounds_toArray, List.set_cons_zero, List.set_cons_succ]
  refine wpAnyH_take (i := 7) (oi := _) (v := ?vr3_1_7) rfl (by kernel_rfl) (by kernel_rfl) (by kernel_rfl) ?hqr3_1_7 (Or.inl ⟨by kernel_rfl, ?hyr3_1_7⟩) (by assumption) ?restr3_1_7
  case hqr3_1_7 => exact fun _ _ _ h => h
  case hyr3_1_7 => (intro w hSw; (try dsimp only at hSw); go_simp; try with_reducible rfl)
  try simp only [Act.put, List.getElem_toArray, List.getElem_cons_succ, List.getElem_cons_zero, List.setIfInBounds_toArray, List.set_cons_zero, List.set_cons_succ]
  refine wpAnyH_take (i := 8) (oi := _) (v := ?vr3_1_8) rfl (by kernel_rfl) (by kernel_rfl) (by kernel_rfl) ?hqr3_1_8 (Or.inl ⟨by kernel_rfl, ?hyr3_1_8⟩) (by assumption) ?restr3_1_8
  case hqr3_1_8 => exact fun _ _ _ h => h
  case hyr3_1_8 => (intro w hSw; (try dsimp only at hSw); go_simp; try with_reducible rfl)
  try simp only [Act.put, List.getElem_toArray, List.getElem_cons_succ, List.getElem_cons_zero, List.setIfInBounds_toArray, List.set_cons_zero, List.set_cons_succ]
  refine wpAnyH_take (i := 9) (oi := _) (v := ?vr3_1_9) rfl (by kernel_rfl) (by kernel_rfl) (by kernel_rfl) ?hqr3_1_9 (Or.inl ⟨by kernel_rfl, ?hyr3_1_9⟩) (by assumption) ?restr3_1_9
  case hqr3_1_9 => exact fun _ _ _ h => h
  case hyr3_1_9 => (intro w hSw; (try dsimp only at hSw); go_simp; try with_reducible rfl)
  try simp only [Act.put, List.getElem_toArray, List.getElem_cons_succ, List.getElem_cons_zero, List.setIfInBounds_toArray, List.set_cons_zero, List.set_cons_succ]
  refine wpAnyH_take (i := 10) (oi := _) (v := ?vr3_1_10) rfl (by kernel_rfl) (by kernel_rfl) (by kernel_rfl) ?hqr3_1_10 (Or.inl ⟨by kernel_rfl, ?hyr3_1_10⟩) (by assumption) ?restr3_1_10
  case hqr3_1_10 => exact fun _ _ _ h => h
  case hyr3_1_10 => (intro w hSw; (try dsimp only at hSw); go_simp; try with_reducible rfl)
  try simp only [Act.put, List.getElem_toArray, List.getElem_cons_succ, List.getElem_cons_zero, List.setIfInBounds_toArray, List.set_cons_zero, List.set_cons_succ]
  refine wpAnyH_take (i := 11) (oi := _) (v := ?vr3_1_11) rfl (by kernel_rfl) (by kernel_rfl) (by kernel_rfl) ?hqr3_1_11 (Or.inl ⟨by kernel_rfl, ?hyr3_1_11⟩) (by assumption) ?restr3_1_11
  case hqr3_1_11 => exact fun _ _ _ h => h
  case hyr3_1_11 => (intro w hSw; (try dsimp only at hSw); go_simp; try with_reducible rfl)
  try simp only [Act.put, List.getElem_toArray, List.getElem_cons_succ, List.getElem_cons_zero, List.setIfInBounds_toArray, List.set_cons_zero, List.set_cons_succ]
  refine wpAnyH_ready (rs := [12]) (by kernel_rfl) (by simp) ?_
  refine AllReadyH.cons (o := _) rfl (fun K hK => ?_) AllReadyH.nil
  go_simp
  refine hK.out _ _ ?_ (fun hHr3_1 => ?_)
  · (try dsimp only); (first | assumption | go_simp)
  clear hK K hHr3_0
  try simp only [Act.put, List.getElem_toArray, List.getElem_cons_succ, List.getElem_cons_zero, List.setIfInBounds_toArray, List.set_cons_zero, List.set_cons_succ]
  refine wpAnyH_ready (rs := [13]) (by kernel_rfl) (by simp) ?_
  refine AllReadyH.cons (o := _) rfl (fun K hK => ?_) AllReadyH.nil
  go_simp
  refine hK.out _ _ ?_ (fun hHr3_2 => ?_)
  · (try dsimp only); (first | assumption | go_simp)
  clear hK K hHr3_1
  try simp only [Act.put, List.getElem_toArray, List.getElem_cons_succ, List.getElem_cons_zero, List.setIfInBounds_toArray, List.set_cons_zero, List.set_cons_succ]
  refine wpAnyH_done (by kernel_rfl) ?_ _
  refine NoPanic.normal ?_
  go_wp2
  refine bodyPost_ret (v := .tuple #[.agg #[.int .i64 1, .int .i64 ((N : Int) - 65536), .int .u64 0, .string ⟨#[]⟩], .int .i64 3]) (by simp [results, Tryz.results73, go_sem, hw1, hcv, hsh, hsb]) rfl ⟨rfl, ?_⟩
  exact by (repeat (first | exact Below.refl _ _ | assumption | exact Bel.refl _ | refine Bel.alloc ?_ _ | refine Bel.drew ?_ | refine Bel.drewN ?_ _ | refine Bel.then_ ?_ (by assumption) | refine Bel.setCell ?_ (by first | (simp; done) | (simp; omega)) _))
set_option maxRecDepth 100000 in
set_option maxHeartbeats 1000000 in
theorem r4v_int2pos (w : World) (cn : ByteArray) (cnl : Bool) (ab ao n c : Nat) (hd : w.cell? ⟨ab, ao, none⟩ = some (.int .u8 1)) (hn : 2 ≤ n) (hcn : n ≤ c) (hmx : c ≤ maxLen) (e : Nat) (he : w.cell? ⟨ab, ao + 1, none⟩ = some (.int .u8 e)) (q : List UInt8) (hz : 2 ≤ q.length) (hzn : 2 ≤ n - 1) (hrq : Reads w w.heap.size 1 (some ⟨ab, ao + 1, none⟩) q.length (q.map bv)) (h1 : e < 128) : Calls Tryz.prog 73 #[.agg #[.string cn, .int .i64 1, .int .i64 2, .bool cnl], .slice (some ⟨ab, ao, none⟩) n c] w (GivesV ⟨1, numN (q.take 2), 0, ⟨#[]⟩⟩ 3 w) := by
  have hb0 : Bel w ((w.alloc (.cells #[.string cn, .int .i64 1, .int .i64 2, .bool cnl] 44)).alloc (.cells #[.int .i64 0, .int .i64 0, .int .u64 0, .string ⟨#[]⟩] 48)) := ((Bel.refl w).alloc _).alloc _
  have hl : (q.take 2).length = 2 := by rw [List.length_take]; omega
  have HRF := Lib.hid (fun cap (hr : Reads ((w.alloc (.cells #[.string cn, .int .i64 1, .int .i64 2, .bool cnl] 44)).alloc (.cells #[.int .i64 0, .int .i64 0, .int .u64 0, .string ⟨#[]⟩] 48)) ((w.alloc (.cells #[.string cn, .int .i64 1, .int .i64 2, .bool cnl] 44)).alloc (.cells #[.int .i64 0, .int .i64 0, .int .u64 0, .string ⟨#[]⟩] 48)).heap.size 1 (some ⟨ab, ao + 1, none⟩) (q.take 2).length ((q.take 2).map bv)) => r2ReadFixed_any (q.take 2) (some ⟨ab, ao + 1, none⟩) cap (by omega) (by omega) ((w.alloc (.cells #[.string cn, .int .i64 1, .int .i64 2, .bool cnl] 44)).alloc (.cells #[.int .i64 0, .int .i64 0, .int .u64 0, .string ⟨#[]⟩] 48)) hr)
  have hrw := (hrq.head 2 hz).belH hb0
  rw [hl] at HRF
  have HRW := Lib.hid hrw
  clear hrw hrq
  have hlt : ab < w.heap.size := World.block_lt_of_cell? (w := w) (a := ⟨ab, ao, none⟩) hd
  have hn0 : ((n : Int) == 0) = false := by rw [beq_eq_false_iff_ne]; omega
  have hnJ : (2 : Int) ≤ n := by omega
  have hnI : (1 : Int) ≤ n := by omega
  have hnc : (n : Int) ≤ c := by omega
  have hcm : (c : Int) ≤ 9223372036854775807 := by unfold maxLen at hmx; omega
  have hI4 : ((n : Int) - 1).toNat = n - 1 := by omega
  have hI5 : ((c : Int) - 1).toNat = c - 1 := by omega
  have hc1 : ¬ c = 1 := by omega
  have hq0 : (((n - 1 : Nat) : Int) == 0) = false := by rw [beq_eq_false_iff_ne]; omega
  have hq1 : (1 : Int) ≤ ((n - 1 : Nat) : Int) := by omega
  have hzI : (2 : Int) ≤ ((n - 1 : Nat) : Int) := by omega
  have hzK : (2 : Int) ≤ ((c - 1 : Nat) : Int) := by omega
  have hlN := numN_lt (q.take 2)
  rw [hl] at hlN
  generalize numN (q.take 2) = N at *
  rw [show (256 : Nat) ^ 2 = 65536 by decide] at hlN
  have hNI : (N : Int) ≤ 65535 := by omega
  have hcv : IntKind.i64.wrap (N : Int) = N := by
    simp only [IntKind.wrap, IntKind.bits, IntKind.signed]
    simp
    omega
  have hsb : IntKind.i64.wrap ((N : Int) - 65536) = (N : Int) - 65536 := by
    simp only [IntKind.wrap, IntKind.bits, IntKind.signed]
    simp
    omega
  have hdb : decide ((128 : Int) ≤ e) = false := by simp; omega
  have hdc : decide ((e : Int) ≥ 128) = false := by simp; omega
  have hzd : decide (n - 1 < 2) = false := by simp; omega
  have hw1 : IntKind.i64.wrap 3 = 3 := by decide
  have hsh : IntKind.i64.wrap (2 ^ min (IntKind.u64.wrap (IntKind.i64.wrap 16)).toNat 64) = 65536 := by decide
  clear hmx hcn hl hz hlN
  go_enter Tryz.func73, Tryz.ntmps73
  go_wp2_with fail
  refine (HRF.out _ HRW.out).mono ?_
  rintro e w' ⟨rfl, rfl⟩
  go_wp2
  refine wp_region_noPanic ?_
  refine wp_region_held_drew (S := (fun V : World => V.cell? ⟨w.heap.size, 2, none⟩ = some (.int .i64 2))) (by kernel_rfl) ?_ (fun hHr4_0 => ?_)
  · (try dsimp only); (first | assumption | go_simp)
  refine wpAnyH_take (i := 0) (oi := _) (v := ?vr4_1_0) rfl (by kernel_rfl) (by kernel_rfl) (by kernel_rfl) ?hqr4_1_0 (Or.inl ⟨by kernel_rfl, ?hyr4_1_0⟩) (by assumption) ?restr4_1_0
  case hqr4_1_0 => exact fun _ _ _ h => h
  case hyr4_1_0 => (intro w hSw; (try dsimp only at hSw); go_simp; try with_reducible rfl)
  try simp only [Act.put, List.getElem_toArray, List.getElem_cons_succ, List.getElem_cons_zero, List.setIfInBounds_toArray, List.set_cons_zero, List.set_cons_succ]
  refine wpAnyH_take (i := 1) (oi := _) (v := ?vr4_1_1) rfl (by kernel_rfl) (by kernel_rfl) (by kernel_rfl) ?hqr4_1_1 (Or.inl ⟨by kernel_rfl, ?hyr4_1_1⟩) (by assumption) ?restr4_1_1
  case hqr4_1_1 => exact fun _ _ _ h => h
  case hyr4_1_1 => (intro w hSw; (try dsimp only at hSw); go_simp; try with_reducible rfl)
  try simp only [Act.put, List.getElem_toArray, List.getElem_cons_succ, List.getElem_cons_zero, List.setIfInBounds_toArray, List.set_cons_zero, List.set_cons_succ]
  refine wpAnyH_take (i := 2) (oi := _) (v := ?vr4_1_2) rfl (by kernel_rfl) (by kernel_rfl) (by kernel_rfl) ?hqr4_1_2 (Or.inl ⟨by kernel_rfl, ?hyr4_1_2⟩) (by assumption) ?restr4_1_2
  case hqr4_1_2 => exact fun _ _ _ h => h
  case hyr4_1_2 => (intro w hSw; (try dsimp only at hSw); go_simp; try with_reducible rfl)
  try simp only [Act.put, List.getElem_toArray, List.getElem_cons_succ, List.getElem_cons_zero, List.setIfInBounds_toArray, List.set_cons_zero, List.set_cons_succ]
  refine wpAnyH_take (i := 3) (oi := _) (v := ?vr4_1_3) rfl (by kernel_rfl) (by kernel_rfl) (by kernel_rfl) ?hqr4_1_3 (Or.inl ⟨by kernel_rfl, ?hyr4_1_3⟩) (by assumption) ?restr4_1_3
  case hqr4_1_3 => exact fun _ _ _ h => h
  case hyr4_1_3 => (intro w hSw; (try dsimp only at hSw); go_simp; try with_reducible rfl)
  try simp only [Act.put, List.getElem_toArray, List.getElem_cons_succ, List.getElem_cons_zero, List.setIfInBounds_toArray, List.set_cons_zero, List.set_cons_succ]
  refine wpAnyH_take (i := 4) (oi := _) (v := ?vr4_1_4) rfl (by kernel_rfl) (by kernel_rfl) (by kernel_rfl) ?hqr4_1_4 (Or.inl ⟨by kernel_rfl, ?hyr4_1_4⟩) (by assumption) ?restr4_1_4
  case hqr4_1_4 => exact fun _ _ _ h => h
  case hyr4_1_4 => (intro w hSw; (try dsimp only at hSw); go_simp; try with_reducible rfl)
  try simp only [Act.put, List.getElem_toArray, List.getElem_cons_succ, List.getElem_cons_zero, List.setIfInBounds_toArray, List.set_cons_zero, List.set_cons_succ]
  refine wpAnyH_take (i := 5) (oi := _) (v := ?vr4_1_5) rfl (by kernel_rfl) (by kernel_rfl) (by kernel_rfl) ?hqr4_1_5 (Or.inl ⟨by kernel_rfl, ?hyr4_1_5⟩) (by assumption) ?restr4_1_5
  case hqr4_1_5 => exact fun _ _ _ h => h
  case hyr4_1_5 => (intro w hSw; (try dsimp only at hSw); go_simp; try with_reducible rfl)
  try simp only [Act.put, List.getElem_toArray, List.getElem_cons_succ, List.getElem_cons_zero, List.setIfInBounds_toArray, List.set_cons_zero, List.set_cons_succ]
  refine wpAnyH_ready (rs := [6]) (by kernel_rfl) (by simp) ?_
  refine AllReadyH.cons (o := _) rfl (fun K hK => ?_) AllReadyH.nil
  go_simp
  refine hK.out _ _ ?_ (fun hHr4_1 => ?_)
  · (try dsimp only); (first | assumption | go_simp)
  clear hK K hHr4_0
  try simp only [Act.put, List.getElem_toArray, List.getElem_cons_succ, List.getElem_cons_zero, List.setIfInBounds_toArray, List.set_cons_zero, List.set_cons_succ]
  refine wpAnyH_ready (rs := [7]) (by kernel_rfl) (by simp) ?_
  refine AllReadyH.cons (o := _) rfl (fun K hK => ?_) AllReadyH.nil
  go_simp
  refine hK.out _ _ ?_ (fun hHr4_2 => ?_)
  · (try dsimp only); (first | assumption | go_simp)
  clear hK K hHr4_1
  try simp only [Act.put, List.getElem_toArray, List.getElem_cons_succ, List.getElem_cons_zero, List.setIfInBounds_toArray, List.set_cons_zero, List.set_cons_succ]
  refine wpAnyH_done (by kernel_rfl) ?_ _
  refine NoPanic.normal ?_
  go_wp2
  refine bodyPost_ret (v := .tuple #[.agg #[.int .i64 1, .int .i64 N, .int .u64 0, .string ⟨#[]⟩], .int .i64 3]) (by simp [results, Tryz.results73, go_sem, hw1, hcv, hsh, hsb]) rfl ⟨rfl, ?_⟩
  exact by (repeat (first | exact Below.refl _ _ | assumption | exact Bel.refl _ | refine Bel.alloc ?_ _ | refine Bel.drew ?_ | refine Bel.drewN ?_ _ | refine Bel.then_ ?_ (by assumption) | refine Bel.setCell ?_ (by first | (simp; done) | (simp; omega)) _))
set_option maxRecDepth 100000 in
set_option maxHeartbeats 1000000 in
theorem r4v_int4neg (w : World) (cn : ByteArray) (cnl : Bool) (ab ao n c : Nat) (hd : w.cell? ⟨ab, ao, none⟩ = some (.int .u8 1)) (hn : 2 ≤ n) (hcn : n ≤ c) (hmx : c ≤ maxLen) (e : Nat) (he : w.cell? ⟨ab, ao + 1, none⟩ = some (.int .u8 e)) (q : List UInt8) (hz : 4 ≤ q.length) (hzn : 4 ≤ n - 1) (hrq : Reads w w.heap.size 1 (some ⟨ab, ao + 1, none⟩) q.length (q.map bv)) (h1 : 128 ≤ e) : Calls Tryz.prog 73 #[.agg #[.string cn, .int .i64 1, .int .i64 4, .bool cnl], .slice (some ⟨ab, ao, none⟩) n c] w (GivesV ⟨1, (numN (q.take 4) : Int) - 4294967296, 0, ⟨#[]⟩⟩ 5 w) := by
  have hb0 : Bel w ((w.alloc (.cells #[.string cn, .int .i64 1, .int .i64 4, .bool cnl] 44)).alloc (.cells #[.int .i64 0, .int .i64 0, .int .u64 0, .string ⟨#[]⟩] 48)) := ((Bel.refl w).alloc _).alloc _
  have hl : (q.take 4).length = 4 := by rw [List.length_take]; omega
  have HRF := Lib.hid (fun cap (hr : Reads ((w.alloc (.cells #[.string cn, .int .i64 1, .int .i64 4, .bool cnl] 44)).alloc (.cells #[.int .i64 0, .int .i64 0, .int .u64 0, .string ⟨#[]⟩] 48)) ((w.alloc (.cells #[.string cn, .int .i64 1, .int .i64 4, .bool cnl] 44)).alloc (.cells #[.int .i64 0, .int .i64 0, .int .u64 0, .string ⟨#[]⟩] 48)).heap.size 1 (some ⟨ab, ao + 1, none⟩) (q.take 4).length ((q.take 4).map bv)) => r2ReadFixed_any (q.take 4) (some ⟨ab, ao + 1, none⟩) cap (by omega) (by omega) ((w.alloc (.cells #[.string cn, .int .i64 1, .int .i64 4, .bool cnl] 44)).alloc (.cells #[.int .i64 0, .int .i64 0, .int .u64 0, .string ⟨#[]⟩] 48)) hr)
  have hrw := (hrq.head 4 hz).belH hb0
  rw [hl] at HRF
  have HRW := Lib.hid hrw
  clear hrw hrq
  have hlt : ab < w.heap.size := World.block_lt_of_cell? (w := w) (a := ⟨ab, ao, none⟩) hd
  have hn0 : ((n : Int) == 0) = false := by rw [beq_eq_false_iff_ne]; omega
  have hnJ : (2 : Int) ≤ n := by omega
  have hnI : (1 : Int) ≤ n := by omega
  have hnc : (n : Int) ≤ c := by omega
  have hcm : (c : Int) ≤ 9223372036854775807 := by unfold maxLen at hmx; omega
  have hI4 : ((n : Int) - 1).toNat = n - 1 := by omega
  have hI5 : ((c : Int) - 1).toNat = c - 1 := by omega
  have hc1 : ¬ c = 1 := by omega
  have hq0 : (((n - 1 : Nat) : Int) == 0) = false := by rw [beq_eq_false_iff_ne]; omega
  have hq1 : (1 : Int) ≤ ((n - 1 : Nat) : Int) := by omega
  have hzI : (4 : Int) ≤ ((n - 1 : Nat) : Int) := by omega
  have hzK : (4 : Int) ≤ ((c - 1 : Nat) : Int) := by omega
  have hlN := numN_lt (q.take 4)
  rw [hl] at hlN
  generalize numN (q.take 4) = N at *
  rw [show (256 : Nat) ^ 4 = 4294967296 by decide] at hlN
  have hNI : (N : Int) ≤ 4294967295 := by omega
  have hcv : IntKind.i64.wrap (N : Int) = N := by
    simp only [IntKind.wrap, IntKind.bits, IntKind.signed]
    simp
    omega
  have hsb : IntKind.i64.wrap ((N : Int) - 4294967296) = (N : Int) - 4294967296 := by
    simp only [IntKind.wrap, IntKind.bits, IntKind.signed]
    simp
    omega
  have hdb : decide ((128 : Int) ≤ e) = true := by simp; omega
  have hdc : decide ((e : Int) ≥ 128) = true := by simp; omega
  have hzd : decide (n - 1 < 4) = false := by simp; omega
  have hw1 : IntKind.i64.wrap 5 = 5 := by decide
  have hsh : IntKind.i64.wrap (2 ^ min (IntKind.u64.wrap (IntKind.i64.wrap 32)).toNat 64) = 4294967296 := by decide
  clear hmx hcn hl hz hlN
  go_enter Tryz.func73, Tryz.ntmps73
  go_wp2_with fail
  refine (HRF.out _ HRW.out).mono ?_
  rintro e w' ⟨rfl, rfl⟩
  go_wp2
  refine wp_region_noPanic ?_
  refine wp_region_held_drew (S := (fun V : World => V.cell? ⟨w.heap.size, 2, none⟩ = some (.int .i64 4))) (by kernel_rfl) ?_ (fun hHr5_0 => ?_)
  · (try dsimp only); (first | assumption | go_simp)
  refine wpAnyH_take (i := 0) (oi := _) (v := ?vr5_1_0) rfl (by kernel_rfl) (by kernel_rfl) (by kernel_rfl) ?hqr5_1_0 (Or.inl ⟨by kernel_rfl, ?hyr5_1_0⟩) (by assumption) ?restr5_1_0
  case hqr5_1_0 => exact fun _ _ _ h => h
  case hyr5_1_0 => (intro w hSw; (try dsimp only at hSw); go_simp; try with_reducible rfl)
  try simp only [Act.put, List.getElem_toArray, List.getElem_cons_succ, List.getElem_cons_zero, List.setIfInBounds_toArray, List.set_cons_zero, List.set_cons_succ]
  refine wpAnyH_take (i := 1) (oi := _) (v := ?vr5_1_1) rfl (by kernel_rfl) (by kernel_rfl) (by kernel_rfl) ?hqr5_1_1 (Or.inl ⟨by kernel_rfl, ?hyr5_1_1⟩) (by assumption) ?restr5_1_1
  case hqr5_1_1 => exact fun _ _ _ h => h
  case hyr5_1_1 => (intro w hSw; (try dsimp only at hSw); go_simp; try with_reducible rfl)
  try simp only [Act.put, List.getElem_toArray, List.getElem_cons_succ, List.getElem_cons_zero, List.setIfInBounds_toArray, List.set_cons_zero, List.set_cons_succ]
  refine wpAnyH_take (i := 2) (oi := _) (v := ?vr5_1_2) rfl (by kernel_rfl) (by kernel_rfl) (by kernel_rfl) ?hqr5_1_2 (Or.inl ⟨by kernel_rfl, ?hyr5_1_2⟩) (by assumption) ?restr5_1_2
  case hqr5_1_2 => exact fun _ _ _ h => h
  case hyr5_1_2 => (intro w hSw; (try dsimp only at hSw); go_simp; try with_reducible rfl)
  try simp only [Act.put, List.getElem_toArray, List.getElem_cons_succ, List.getElem_cons_zero, List.setIfInBounds_toArray, List.set_cons_zero, List.set_cons_succ]
  refine wpAnyH_take (i := 3) (oi := _) (v := ?vr5_1_3) rfl (by kernel_rfl) (by kernel_rfl) (by kernel_rfl) ?hqr5_1_3 (Or.inl ⟨by kernel_rfl, ?hyr5_1_3⟩) (by assumption) ?restr5_1_3
  case hqr5_1_3 => exact fun _ _ _ h => h
  case hyr5_1_3 => (intro w hSw; (try dsimp only at hSw); go_simp; try with_reducible rfl)
  try simp only [Act.put, List.getElem_toArray, List.getElem_cons_succ, List.getElem_cons_zero, List.setIfInBounds_toArray, List.set_cons_zero, List.set_cons_succ]
  refine wpAnyH_take (i := 4) (oi := _) (v := ?vr5_1_4) rfl (by kernel_rfl) (by kernel_rfl) (by kernel_rfl) ?hqr5_1_4 (Or.inl ⟨by kernel_rfl, ?hyr5_1_4⟩) (by assumption) ?restr5_1_4
  case hqr5_1_4 => exact fun _ _ _ h => h
  case hyr5_1_4 => (intro w hSw; (try dsimp only at hSw); go_simp; try with_reducible rfl)
  try simp only [Act.put, List.getElem_toArray, List.getElem_cons_succ, List.getElem_cons_zero, List.setIfInBounds_toArray, List.set_cons_zero, List.set_cons_succ]
  refine wpAnyH_take (i := 5) (oi := _) (v := ?vr5_1_5) rfl (by kernel_rfl) (by kernel_rfl) (by kernel_rfl) ?hqr5_1_5 (Or.inl ⟨by kernel_rfl, ?hyr5_1_5⟩) (by assumption) ?restr5_1_5
  case hqr5_1_5 => exact fun _ _ _ h => h
  case hyr5_1_5 => (intro w hSw; (try dsimp only at hSw); go_simp; try with_reducible rfl)
  try simp only [Act.put, List.getElem_toArray, List.getElem_cons_succ, List.getElem_cons_zero, List.setIfInBounds_toArray, List.set_cons_zero, List.set_cons_succ]
  refine wpAnyH_take (i := 6) (oi := _) (v := ?vr5_1_6) rfl (by kernel_rfl) (by kernel_rfl) (by kernel_rfl) ?hqr5_1_6 (Or.inl ⟨by kernel_rfl, ?hyr5_1_6⟩) (by assumption) ?restr5_1_6
  case hqr5_1_6 => exact fun _ _ _ h => h
  case hyr5_1_6 => (intro w hSw; (try dsimp only at hSw); go_simp; try with_reducible rfl)
  try simp only [Act.put, List.getElem_toArray, List.getElem_cons_succ, List.getElem_cons_zero, List.setIfInBounds_toArray, List.set_cons_zero, List.set_cons_succ]
  refine wpAnyH_take (i := 7) (oi := _) (v := ?vr5_1_7) rfl (by kernel_rfl) (by kernel_rfl) (by kernel_rfl) ?hqr5_1_7 (Or.inl ⟨by kernel_rfl, ?hyr5_1_7⟩) (by assumption) ?restr5_1_7
  case hqr5_1_7 => exact fun _ _ _ h => h
  case hyr5_1_7 => (intro w hSw; (try dsimp only at hSw); go_simp; try with_reducible rfl)
  try simp only [Act.put, List.getElem_toArray, List.getElem_cons_succ, List.getElem_cons_zero, List.setIfInBounds_toArray, List.set_cons_zero, List.set_cons_succ]
  refine wpAnyH_take (i := 8) (oi := _) (v := ?vr5_1_8) rfl (by kernel_rfl) (by kernel_rfl) (by kernel_rfl) ?hqr5_1_8 (Or.inl ⟨by kernel_rfl, ?hyr5_1_8⟩) (by assumption) ?restr5_1_8
  case hqr5_1_8 => exact fun _ _ _ h => h
  case hyr5_1_8 => (intro w hSw; (try dsimp only at hSw); go_simp; try with_reducible rfl)
  try simp only [Act.put, List.getElem_toArray, List.getElem_cons_succ, List.getElem_cons_zero, List.setIfInBounds_toArray, List.set_cons_zero, List.set_cons_succ]
  refine wpAnyH_take (i := 9) (oi := _) (v := ?vr5_1_9) rfl (by kernel_rfl) (by kernel_rfl) (by kernel_rfl) ?hqr5_1_9 (Or.inl ⟨by kernel_rfl, ?hyr5_1_9⟩) (by assumption) ?restr5_1_9
  case hqr5_1_9 => exact fun _ _ _ h => h
  case hyr5_1_9 => (intro w hSw; (try dsimp only at hSw); go_simp; try with_reducible rfl)
  try simp only [Act.put, List.getElem_toArray, List.getElem_cons_succ, List.getElem_cons_zero, List.setIfInBounds_toArray, List.set_cons_zero, List.set_cons_succ]
  refine wpAnyH_take (i := 10) (oi := _) (v := ?vr5_1_10) rfl (by kernel_rfl) (by kernel_rfl) (by kernel_rfl) ?hqr5_1_10 (Or.inl ⟨by kernel_rfl, ?hyr5_1_10⟩) (by assumption) ?restr5_1_10
  case hqr5_1_10 => exact fun _ _ _ h => h
  case hyr5_1_10 => (intro w hSw; (try dsimp only at hSw); go_simp; try with_reducible rfl)
  try simp only [Act.put, List.getElem_toArray, List.getElem_cons_succ, List.getElem_cons_zero, List.setIfInBounds_toArray, List.set_cons_zero, List.set_cons_succ]
  refine wpAnyH_take (i := 11) (oi := _) (v := ?vr5_1_11) rfl (by kernel_rfl) (by kernel_rfl) (by kernel_rfl) ?hqr5_1_11 (Or.inl ⟨by kernel_rfl, ?hyr5_1_11⟩) (by assumption) ?restr5_1_11
  case hqr5_1_11 => exact fun _ _ _ h => h
  case hyr5_1_11 => (intro w hSw; (try dsimp only at hSw); go_simp; try with_reducible rfl)
  try simp only [Act.put, List.getElem_toArray, List.getElem_cons_succ, List.getElem_cons_zero, List.setIfInBounds_toArray, List.set_cons_zero, List.set_cons_succ]
  refine wpAnyH_ready (rs := [12]) (by kernel_rfl) (by simp) ?_
  refine AllReadyH.cons (o := _) rfl (fun K hK => ?_) AllReadyH.nil
  go_simp
  refine hK.out _ _ ?_ (fun hHr5_1 => ?_)
  · (try dsimp only); (first | assumption | go_simp)
  clear hK K hHr5_0
  try simp only [Act.put, List.getElem_toArray, List.getElem_cons_succ, List.getElem_cons_zero, List.setIfInBounds_toArray, List.set_cons_zero, List.set_cons_succ]
  refine wpAnyH_ready (rs := [13]) (by kernel_rfl) (by simp) ?_
  refine AllReadyH.cons (o := _) rfl (fun K hK => ?_) AllReadyH.nil
  go_simp
  refine hK.out _ _ ?_ (fun hHr5_2 => ?_)
  · (try dsimp only); (first | assumption | go_simp)
  clear hK K hHr5_1
  try simp only [Act.put, List.getElem_toArray, List.getElem_cons_succ, List.getElem_cons_zero, List.setIfInBounds_toArray, List.set_cons_zero, List.set_cons_succ]
  refine wpAnyH_done (by kernel_rfl) ?_ _
  refine NoPanic.normal ?_
  go_wp2
  refine bodyPost_ret (v := .tuple #[.agg #[.int .i64 1, .int .i64 ((N : Int) - 4294967296), .int .u64 0, .string ⟨#[]⟩], .int .i64 5]) (by simp [results, Tryz.results73, go_sem, hw1, hcv, hsh, hsb]) rfl ⟨rfl, ?_⟩
  exact by (repeat (first | exact Below.refl _ _ | assumption | exact Bel.refl _ | refine Bel.alloc ?_ _ | refine Bel.drew ?_ | refine Bel.drewN ?_ _ | refine Bel.then_ ?_ (by assumption) | refine Bel.setCell ?_ (by first | (simp; done) | (simp; omega)) _))
set_option maxRecDepth 100000 in
set_option maxHeartbeats 1000000 in
theorem r4v_int4pos (w : World) (cn : ByteArray) (cnl : Bool) (ab ao n c : Nat) (hd : w.cell? ⟨ab, ao, none⟩ = some (.int .u8 1)) (hn : 2 ≤ n) (hcn : n ≤ c) (hmx : c ≤ maxLen) (e : Nat) (he : w.cell? ⟨ab, ao + 1, none⟩ = some (.int .u8 e)) (q : List UInt8) (hz : 4 ≤ q.length) (hzn : 4 ≤ n - 1) (hrq : Reads w w.heap.size 1 (some ⟨ab, ao + 1, none⟩) q.length (q.map bv)) (h1 : e < 128) : Calls Tryz.prog 73 #[.agg #[.string cn, .int .i64 1, .int .i64 4, .bool cnl], .slice (some ⟨ab, ao, none⟩) n c] w (GivesV ⟨1, numN (q.take 4), 0, ⟨#[]⟩⟩ 5 w) := by
  have hb0 : Bel w ((w.alloc (.cells #[.string cn, .int .i64 1, .int .i64 4, .bool cnl] 44)).alloc (.cells #[.int .i64 0, .int .i64 0, .int .u64 0, .string ⟨#[]⟩] 48)) := ((Bel.refl w).alloc _).alloc _
  have hl : (q.take 4).length = 4 := by rw [List.length_take]; omega
  have HRF := Lib.hid (fun cap (hr : Reads ((w.alloc (.cells #[.string cn, .int .i64 1, .int .i64 4, .bool cnl] 44)).alloc (.cells #[.int .i64 0, .int .i64 0, .int .u64 0, .string ⟨#[]⟩] 48)) ((w.alloc (.cells #[.string cn, .int .i64 1, .int .i64 4, .bool cnl] 44)).alloc (.cells #[.int .i64 0, .int .i64 0, .int .u64 0, .string ⟨#[]⟩] 48)).heap.size 1 (some ⟨ab, ao + 1, none⟩) (q.take 4).length ((q.take 4).map bv)) => r2ReadFixed_any (q.take 4) (some ⟨ab, ao + 1, none⟩) cap (by omega) (by omega) ((w.alloc (.cells #[.string cn, .int .i64 1, .int .i64 4, .bool cnl] 44)).alloc (.cells #[.int .i64 0, .int .i64 0, .int .u64 0, .string ⟨#[]⟩] 48)) hr)
  have hrw := (hrq.head 4 hz).belH hb0
  rw [hl] at HRF
  have HRW := Lib.hid hrw
  clear hrw hrq
  have hlt : ab < w.heap.size := World.block_lt_of_cell? (w := w) (a := ⟨ab, ao, none⟩) hd
  have hn0 : ((n : Int) == 0) = false := by rw [beq_eq_false_iff_ne]; omega
  have hnJ : (2 : Int) ≤ n := by omega
  have hnI : (1 : Int) ≤ n := by omega
  have hnc : (n : Int) ≤ c := by omega
  have hcm : (c : Int) ≤ 9223372036854775807 := by unfold maxLen at hmx; omega
  have hI4 : ((n : Int) - 1).toNat = n - 1 := by omega
  have hI5 : ((c : Int) - 1).toNat = c - 1 := by omega
  have hc1 : ¬ c = 1 := by omega
  have hq0 : (((n - 1 : Nat) : Int) == 0) = false := by rw [beq_eq_false_iff_ne]; omega
  have hq1 : (1 : Int) ≤ ((n - 1 : Nat) : Int) := by omega
  have hzI : (4 : Int) ≤ ((n - 1 : Nat) : Int) := by omega
  have hzK : (4 : Int) ≤ ((c - 1 : Nat) : Int) := by omega
  have hlN := numN_lt (q.take 4)
  rw [hl] at hlN
  generalize numN (q.take 4) = N at *
  rw [show (256 : Nat) ^ 4 = 4294967296 by decide] at hlN
  have hNI : (N : Int) ≤ 4294967295 := by omega
  have hcv : IntKind.i64.wrap (N : Int) = N := by
    simp only [IntKind.wrap, IntKind.bits, IntKind.signed]
    simp
    omega
  have hsb : IntKind.i64.wrap ((N : Int) - 4294967296) = (N : Int) - 4294967296 := by
    simp only [IntKind.wrap, IntKind.bits, IntKind.signed]
    simp
    omega
  have hdb : decide ((128 : Int) ≤ e) = false := by simp; omega
  have hdc : decide ((e : Int) ≥ 128) = false := by simp; omega
  have hzd : decide (n - 1 < 4) = false := by simp; omega
  have hw1 : IntKind.i64.wrap 5 = 5 := by decide
  have hsh : IntKind.i64.wrap (2 ^ min (IntKind.u64.wrap (IntKind.i64.wrap 32)).toNat 64) = 4294967296 := by decide
  clear hmx hcn hl hz hlN
  go_enter Tryz.func73, Tryz.ntmps73
  go_wp2_with fail
  refine (HRF.out _ HRW.out).mono ?_
  rintro e w' ⟨rfl, rfl⟩
  go_wp2
  refine wp_region_noPanic ?_
  refine wp_region_held_drew (S := (fun V : World => V.cell? ⟨w.heap.size, 2, none⟩ = some (.int .i64 4))) (by kernel_rfl) ?_ (fun hHr6_0 => ?_)
  · (try dsimp only); (first | assumption | go_simp)
  refine wpAnyH_take (i := 0) (oi := _) (v := ?vr6_1_0) rfl (by kernel_rfl) (by kernel_rfl) (by kernel_rfl) ?hqr6_1_0 (Or.inl ⟨by kernel_rfl, ?hyr6_1_0⟩) (by assumption) ?restr6_1_0
  case hqr6_1_0 => exact fun _ _ _ h => h
  case hyr6_1_0 => (intro w hSw; (try dsimp only at hSw); go_simp; try with_reducible rfl)
  try simp only [Act.put, List.getElem_toArray, List.getElem_cons_succ, List.getElem_cons_zero, List.setIfInBounds_toArray, List.set_cons_zero, List.set_cons_succ]
  refine wpAnyH_take (i := 1) (oi := _) (v := ?vr6_1_1) rfl (by kernel_rfl) (by kernel_rfl) (by kernel_rfl) ?hqr6_1_1 (Or.inl ⟨by kernel_rfl, ?hyr6_1_1⟩) (by assumption) ?restr6_1_1
  case hqr6_1_1 => exact fun _ _ _ h => h
  case hyr6_1_1 => (intro w hSw; (try dsimp only at hSw); go_simp; try with_reducible rfl)
  try simp only [Act.put, List.getElem_toArray, List.getElem_cons_succ, List.getElem_cons_zero, List.setIfInBounds_toArray, List.set_cons_zero, List.set_cons_succ]
  refine wpAnyH_take (i := 2) (oi := _) (v := ?vr6_1_2) rfl (by kernel_rfl) (by kernel_rfl) (by kernel_rfl) ?hqr6_1_2 (Or.inl ⟨by kernel_rfl, ?hyr6_1_2⟩) (by assumption) ?restr6_1_2
  case hqr6_1_2 => exact fun _ _ _ h => h
  case hyr6_1_2 => (intro w hSw; (try dsimp only at hSw); go_simp; try with_reducible rfl)
  try simp only [Act.put, List.getElem_toArray, List.getElem_cons_succ, List.getElem_cons_zero, List.setIfInBounds_toArray, List.set_cons_zero, List.set_cons_succ]
  refine wpAnyH_take (i := 3) (oi := _) (v := ?vr6_1_3) rfl (by kernel_rfl) (by kernel_rfl) (by kernel_rfl) ?hqr6_1_3 (Or.inl ⟨by kernel_rfl, ?hyr6_1_3⟩) (by assumption) ?restr6_1_3
  case hqr6_1_3 => exact fun _ _ _ h => h
  case hyr6_1_3 => (intro w hSw; (try dsimp only at hSw); go_simp; try with_reducible rfl)
  try simp only [Act.put, List.getElem_toArray, List.getElem_cons_succ, List.getElem_cons_zero, List.setIfInBounds_toArray, List.set_cons_zero, List.set_cons_succ]
  refine wpAnyH_take (i := 4) (oi := _) (v := ?vr6_1_4) rfl (by kernel_rfl) (by kernel_rfl) (by kernel_rfl) ?hqr6_1_4 (Or.inl ⟨by kernel_rfl, ?hyr6_1_4⟩) (by assumption) ?restr6_1_4
  case hqr6_1_4 => exact fun _ _ _ h => h
  case hyr6_1_4 => (intro w hSw; (try dsimp only at hSw); go_simp; try with_reducible rfl)
  try simp only [Act.put, List.getElem_toArray, List.getElem_cons_succ, List.getElem_cons_zero, List.setIfInBounds_toArray, List.set_cons_zero, List.set_cons_succ]
  refine wpAnyH_take (i := 5) (oi := _) (v := ?vr6_1_5) rfl (by kernel_rfl) (by kernel_rfl) (by kernel_rfl) ?hqr6_1_5 (Or.inl ⟨by kernel_rfl, ?hyr6_1_5⟩) (by assumption) ?restr6_1_5
  case hqr6_1_5 => exact fun _ _ _ h => h
  case hyr6_1_5 => (intro w hSw; (try dsimp only at hSw); go_simp; try with_reducible rfl)
  try simp only [Act.put, List.getElem_toArray, List.getElem_cons_succ, List.getElem_cons_zero, List.setIfInBounds_toArray, List.set_cons_zero, List.set_cons_succ]
  refine wpAnyH_ready (rs := [6]) (by kernel_rfl) (by simp) ?_
  refine AllReadyH.cons (o := _) rfl (fun K hK => ?_) AllReadyH.nil
  go_simp
  refine hK.out _ _ ?_ (fun hHr6_1 => ?_)
  · (try dsimp only); (first | assumption | go_simp)
  clear hK K hHr6_0
  try simp only [Act.put, List.getElem_toArray, List.getElem_cons_succ, List.getElem_cons_zero, List.setIfInBounds_toArray, List.set_cons_zero, List.set_cons_succ]
  refine wpAnyH_ready (rs := [7]) (by kernel_rfl) (by simp) ?_
  refine AllReadyH.cons (o := _) rfl (fun K hK => ?_) AllReadyH.nil
  go_simp
  refine hK.out _ _ ?_ (fun hHr6_2 => ?_)
  · (try dsimp only); (first | assumption | go_simp)
  clear hK K hHr6_1
  try simp only [Act.put, List.getElem_toArray, List.getElem_cons_succ, List.getElem_cons_zero, List.setIfInBounds_toArray, List.set_cons_zero, List.set_cons_succ]
  refine wpAnyH_done (by kernel_rfl) ?_ _
  refine NoPanic.normal ?_
  go_wp2
  refine bodyPost_ret (v := .tuple #[.agg #[.int .i64 1, .int .i64 N, .int .u64 0, .string ⟨#[]⟩], .int .i64 5]) (by simp [results, Tryz.results73, go_sem, hw1, hcv, hsh, hsb]) rfl ⟨rfl, ?_⟩
  exact by (repeat (first | exact Below.refl _ _ | assumption | exact Bel.refl _ | refine Bel.alloc ?_ _ | refine Bel.drew ?_ | refine Bel.drewN ?_ _ | refine Bel.then_ ?_ (by assumption) | refine Bel.setCell ?_ (by first | (simp; done) | (simp; omega)) _))
set_option maxRecDepth 100000 in
set_option maxHeartbeats 1000000 in
theorem r4v_int8all (w : World) (cn : ByteArray) (cnl : Bool) (ab ao n c : Nat) (hd : w.cell? ⟨ab, ao, none⟩ = some (.int .u8 1)) (hn : 2 ≤ n) (hcn : n ≤ c) (hmx : c ≤ maxLen) (q : List UInt8) (hz : 8 ≤ q.length) (hzn : 8 ≤ n - 1) (hrq : Reads w w.heap.size 1 (some ⟨ab, ao + 1, none⟩) q.length (q.map bv)) : Calls Tryz.prog 73 #[.agg #[.string cn, .int .i64 1, .int .i64 8, .bool cnl], .slice (some ⟨ab, ao, none⟩) n c] w (GivesV ⟨1, sgnN (numN (q.take 8)) 8, 0, ⟨#[]⟩⟩ 9 w) := by
  have hb0 : Bel w ((w.alloc (.cells #[.string cn, .int .i64 1, .int .i64 8, .bool cnl] 44)).alloc (.cells #[.int .i64 0, .int .i64 0, .int .u64 0, .string ⟨#[]⟩] 48)) := ((Bel.refl w).alloc _).alloc _
  have hl : (q.take 8).length = 8 := by rw [List.length_take]; omega
  have HRF := Lib.hid (fun cap (hr : Reads ((w.alloc (.cells #[.string cn, .int .i64 1, .int .i64 8, .bool cnl] 44)).alloc (.cells #[.int .i64 0, .int .i64 0, .int .u64 0, .string ⟨#[]⟩] 48)) ((w.alloc (.cells #[.string cn, .int .i64 1, .int .i64 8, .bool cnl] 44)).alloc (.cells #[.int .i64 0, .int .i64 0, .int .u64 0, .string ⟨#[]⟩] 48)).heap.size 1 (some ⟨ab, ao + 1, none⟩) (q.take 8).length ((q.take 8).map bv)) => r2ReadFixed_any (q.take 8) (some ⟨ab, ao + 1, none⟩) cap (by omega) (by omega) ((w.alloc (.cells #[.string cn, .int .i64 1, .int .i64 8, .bool cnl] 44)).alloc (.cells #[.int .i64 0, .int .i64 0, .int .u64 0, .string ⟨#[]⟩] 48)) hr)
  have hrw := (hrq.head 8 hz).belH hb0
  rw [hl] at HRF
  have HRW := Lib.hid hrw
  clear hrw hrq
  have hlt : ab < w.heap.size := World.block_lt_of_cell? (w := w) (a := ⟨ab, ao, none⟩) hd
  have hn0 : ((n : Int) == 0) = false := by rw [beq_eq_false_iff_ne]; omega
  have hnJ : (2 : Int) ≤ n := by omega
  have hnI : (1 : Int) ≤ n := by omega
  have hnc : (n : Int) ≤ c := by omega
  have hcm : (c : Int) ≤ 9223372036854775807 := by unfold maxLen at hmx; omega
  have hI4 : ((n : Int) - 1).toNat = n - 1 := by omega
  have hI5 : ((c : Int) - 1).toNat = c - 1 := by omega
  have hc1 : ¬ c = 1 := by omega
  have hq0 : (((n - 1 : Nat) : Int) == 0) = false := by rw [beq_eq_false_iff_ne]; omega
  have hq1 : (1 : Int) ≤ ((n - 1 : Nat) : Int) := by omega
  have hzI : (8 : Int) ≤ ((n - 1 : Nat) : Int) := by omega
  have hzK : (8 : Int) ≤ ((c - 1 : Nat) : Int) := by omega
  have hlN := numN_lt (q.take 8)
  rw [hl] at hlN
  have hcv : IntKind.i64.wrap (numN (q.take 8) : Int) = sgnN (numN (q.take 8)) 8 := by
    have h8 : numN (q.take 8) < 18446744073709551616 := hlN
    rw [IntKind.wrap_i64, ← sgn_shift8 h8, wrap64]
  generalize sgnN (numN (q.take 8)) 8 = r at *
  generalize numN (q.take 8) = N at *
  have hzd : decide (n - 1 < 8) = false := by simp; omega
  have hw1 : IntKind.i64.wrap 9 = 9 := by decide
  clear hmx hcn hl hz hlN
  go_enter Tryz.func73, Tryz.ntmps73
  go_wp2_with fail
  refine (HRF.out _ HRW.out).mono ?_
  rintro e w' ⟨rfl, rfl⟩
  go_wp2
  refine wp_region_noPanic ?_
  refine wp_region_held_drew (S := (fun V : World => V.cell? ⟨w.heap.size, 2, none⟩ = some (.int .i64 8))) (by kernel_rfl) ?_ (fun hHr7_0 => ?_)
  · (try dsimp only); (first | assumption | go_simp)
  refine wpAnyH_take (i := 0) (oi := _) (v := ?vr7_1_0) rfl (by kernel_rfl) (by kernel_rfl) (by kernel_rfl) ?hqr7_1_0 (Or.inl ⟨by kernel_rfl, ?hyr7_1_0⟩) (by assumption) ?restr7_1_0
  case hqr7_1_0 => exact fun _ _ _ h => h
  case hyr7_1_0 => (intro w hSw; (try dsimp only at hSw); go_simp; try with_reducible rfl)
  try simp only [Act.put, List.getElem_toArray, List.getElem_cons_succ, List.getElem_cons_zero, List.setIfInBounds_toArray, List.set_cons_zero, List.set_cons_succ]
  refine wpAnyH_take (i := 1) (oi := _) (v := ?vr7_1_1) rfl (by kernel_rfl) (by kernel_rfl) (by kernel_rfl) ?hqr7_1_1 (Or.inl ⟨by kernel_rfl, ?hyr7_1_1⟩) (by assumption) ?restr7_1_1
  case hqr7_1_1 => exact fun _ _ _ h => h
  case hyr7_1_1 => (intro w hSw; (try dsimp only at hSw); go_simp; try with_reducible rfl)
  try simp only [Act.put, List.getElem_toArray, List.getElem_cons_succ, List.getElem_cons_zero, List.setIfInBounds_toArray, List.set_cons_zero, List.set_cons_succ]
  refine wpAnyH_take (i := 2) (oi := _) (v := ?vr7_1_2) rfl (by kernel_rfl) (by kernel_rfl) (by kernel_rfl) ?hqr7_1_2 (Or.inl ⟨by kernel_rfl, ?hyr7_1_2⟩) (by assumption) ?restr7_1_2
  case hqr7_1_2 => exact fun _ _ _ h => h
  case hyr7_1_2 => (intro w hSw; (try dsimp only at hSw); go_simp; try with_reducible rfl)
  try simp only [Act.put, List.getElem_toArray, List.getElem_cons_succ, List.getElem_cons_zero, List.setIfInBounds_toArray, List.set_cons_zero, List.set_cons_succ]
  refine wpAnyH_take (i := 3) (oi := _) (v := ?vr7_1_3) rfl (by kernel_rfl) (by kernel_rfl) (by kernel_rfl) ?hqr7_1_3 (Or.inl ⟨by kernel_rfl, ?hyr7_1_3⟩) (by assumption) ?restr7_1_3
  case hqr7_1_3 => exact fun _ _ _ h => h
  case hyr7_1_3 => (intro w hSw; (try dsimp only at hSw); go_simp; try with_reducible rfl)
  try simp only [Act.put, List.getElem_toArray, List.getElem_cons_succ, List.getElem_cons_zero, List.setIfInBounds_toArray, List.set_cons_zero, List.set_cons_succ]
  refine wpAnyH_take (i := 4) (oi := _) (v := ?vr7_1_4) rfl (by kernel_rfl) (by kernel_rfl) (by kernel_rfl) ?hqr7_1_4 (Or.inl ⟨by kernel_rfl, ?hyr7_1_4⟩) (by assumption) ?restr7_1_4
  case hqr7_1_4 => exact fun _ _ _ h => h
  case hyr7_1_4 => (intro w hSw; (try dsimp only at hSw); go_simp; try with_reducible rfl)
  try simp only [Act.put, List.getElem_toArray, List.getElem_cons_succ, List.getElem_cons_zero, List.setIfInBounds_toArray, List.set_cons_zero, List.set_cons_succ]
  refine wpAnyH_take (i := 5) (oi := _) (v := ?vr7_1_5) rfl (by kernel_rfl) (by kernel_rfl) (by kernel_rfl) ?hqr7_1_5 (Or.inl ⟨by kernel_rfl, ?hyr7_1_5⟩) (by assumption) ?restr7_1_5
  case hqr7_1_5 => exact fun _ _ _ h => h
  case hyr7_1_5 => (intro w hSw; (try dsimp only at hSw); go_simp; try with_reducible rfl)
  try simp only [Act.put, List.getElem_toArray, List.getElem_cons_succ, List.getElem_cons_zero, List.setIfInBounds_toArray, List.set_cons_zero, List.set_cons_succ]
  refine wpAnyH_ready (rs := [6]) (by kernel_rfl) (by simp) ?_
  refine AllReadyH.cons (o := _) rfl (fun K hK => ?_) AllReadyH.nil
  go_simp
  refine hK.out _ _ ?_ (fun hHr7_1 => ?_)
  · (try dsimp only); (first | assumption | go_simp)
  clear hK K hHr7_0
  try simp only [Act.put, List.getElem_toArray, List.getElem_cons_succ, List.getElem_cons_zero, List.setIfInBounds_toArray, List.set_cons_zero, List.set_cons_succ]
  refine wpAnyH_ready (rs := [7]) (by kernel_rfl) (by simp) ?_
  refine AllReadyH.cons (o := _) rfl (fun K hK => ?_) AllReadyH.nil
  go_simp
  refine hK.out _ _ ?_ (fun hHr7_2 => ?_)
  · (try dsimp only); (first | assumption | go_simp)
  clear hK K hHr7_1
  try simp only [Act.put, List.getElem_toArray, List.getElem_cons_succ, List.getElem_cons_zero, List.setIfInBounds_toArray, List.set_cons_zero, List.set_cons_succ]
  refine wpAnyH_done (by kernel_rfl) ?_ _
  refine NoPanic.normal ?_
  go_wp2
  refine bodyPost_ret (v := .tuple #[.agg #[.int .i64 1, .int .i64 r, .int .u64 0, .string ⟨#[]⟩], .int .i64 9]) (by simp [results, Tryz.results73, go_sem, hw1, hcv]) rfl ⟨rfl, ?_⟩
  exact by (repeat (first | exact Below.refl _ _ | assumption | exact Bel.refl _ | refine Bel.alloc ?_ _ | refine Bel.drew ?_ | refine Bel.drewN ?_ _ | refine Bel.then_ ?_ (by assumption) | refine Bel.setCell ?_ (by first | (simp; done) | (simp; omega)) _))
end Go.Proofs.YtkklmflclmgjeaaGreatDoor

/-
  The codec: the document's value: text.
-/
set_option linter.unusedVariables false
set_option linter.unusedSimpArgs false
set_option linter.unusedVariables false
set_option linter.unusedSimpArgs false
namespace Go.Proofs.YtkklmflclmgjeaaGreatDoor
open Go.RowKit Go.Shelf Go.Lib

set_option maxRecDepth 100000 in
set_option maxHeartbeats 1000000 in
theorem r4v_text0 (w : World) (cn : ByteArray) (z : Nat) (cnl : Bool) (ab ao c : Nat) (hd : w.cell? ⟨ab, ao, none⟩ = some (.int .u8 1)) (hn : 1 ≤ c) (hmx : c ≤ maxLen) : Calls Tryz.prog 73 #[.agg #[.string cn, .int .i64 4, .int .i64 z, .bool cnl], .slice (some ⟨ab, ao, none⟩) 1 c] w (GivesV noVal 0 w) := by
  have hlt : ab < w.heap.size := World.block_lt_of_cell? (w := w) (a := ⟨ab, ao, none⟩) hd
  have hnc : (1 : Int) ≤ c := by omega
  have HT := Lib.hid (fun A cap (h : 0 ≤ cap ∧ cap ≤ maxLen) => r2ReadText_any (.slice A 0 cap) [] (by simp) ((w.alloc (.cells #[.string cn, .int .i64 4, .int .i64 z, .bool cnl] 44)).alloc (.cells #[.int .i64 0, .int .i64 0, .int .u64 0, .string ⟨#[]⟩] 48)) ⟨A, cap, rfl, h.1, h.2, rfl, fun h => by simp at h⟩)
  simp only [show rdText ([] : List UInt8) = none from rfl, textV] at HT
  have HM := Lib.hid (And.intro (Nat.zero_le (c - 1)) (Nat.le_trans (Nat.sub_le c 1) hmx))
  have HM0 := Lib.hid (And.intro (Nat.zero_le 0) (Nat.zero_le maxLen))
  have hcm : (c : Int) ≤ 9223372036854775807 := by unfold maxLen at hmx; omega
  have hI5 : ((c : Int) - 1).toNat = c - 1 := by omega
  clear hmx hn
  by_cases hc1 : c = 1
  · subst hc1
    go_enter Tryz.func73, Tryz.ntmps73
    go_wp2_with fail
    refine (HT.out _ _ HM0.out).mono ?_
    rintro e w' ⟨rfl, rfl⟩
    go_wp2
    refine bodyPost_ret (v := .tuple #[.agg #[.int .i64 0, .int .i64 0, .int .u64 0, .string ⟨#[]⟩], .int .i64 0]) (by simp [results, Tryz.results73, go_sem]) rfl ⟨rfl, ?_⟩
    exact by (repeat (first | exact Below.refl _ _ | assumption | exact Bel.refl _ | refine Bel.alloc ?_ _ | refine Bel.drew ?_ | refine Bel.drewN ?_ _ | refine Bel.then_ ?_ (by assumption) | refine Bel.setCell ?_ (by first | (simp; done) | (simp; omega)) _))

  · go_enter Tryz.func73, Tryz.ntmps73
    go_wp2_with fail
    refine (HT.out _ _ HM.out).mono ?_
    rintro e w' ⟨rfl, rfl⟩
    go_wp2
    refine bodyPost_ret (v := .tuple #[.agg #[.int .i64 0, .int .i64 0, .int .u64 0, .string ⟨#[]⟩], .int .i64 0]) (by simp [results, Tryz.results73, go_sem]) rfl ⟨rfl, ?_⟩
    exact by (repeat (first | exact Below.refl _ _ | assumption | exact Bel.refl _ | refine Bel.alloc ?_ _ | refine Bel.drew ?_ | refine Bel.drewN ?_ _ | refine Bel.then_ ?_ (by assumption) | refine Bel.setCell ?_ (by first | (simp; done) | (simp; omega)) _))
set_option maxRecDepth 100000 in
set_option maxHeartbeats 1000000 in
theorem r4v_textNone (w : World) (cn : ByteArray) (z : Nat) (cnl : Bool) (ab ao n c : Nat) (hd : w.cell? ⟨ab, ao, none⟩ = some (.int .u8 1)) (hn : 2 ≤ n) (hcn : n ≤ c) (hmx : c ≤ maxLen) (q : List UInt8) (hs : q.length ≤ 1000000) (hqn : q.length = n - 1) (hrq : Reads w w.heap.size 1 (some ⟨ab, ao + 1, none⟩) q.length (q.map bv)) (hr : rdText q = none) : Calls Tryz.prog 73 #[.agg #[.string cn, .int .i64 4, .int .i64 z, .bool cnl], .slice (some ⟨ab, ao, none⟩) n c] w (GivesV noVal 0 w) := by
  have hb0 : Bel w ((w.alloc (.cells #[.string cn, .int .i64 4, .int .i64 z, .bool cnl] 44)).alloc (.cells #[.int .i64 0, .int .i64 0, .int .u64 0, .string ⟨#[]⟩] 48)) := ((Bel.refl w).alloc _).alloc _
  have HT := Lib.hid (r2ReadText_any (.slice (some ⟨ab, ao + 1, none⟩) q.length (c - 1)) q hs ((w.alloc (.cells #[.string cn, .int .i64 4, .int .i64 z, .bool cnl] 44)).alloc (.cells #[.int .i64 0, .int .i64 0, .int .u64 0, .string ⟨#[]⟩] 48)) ⟨_, _, rfl, by omega, by omega, hrq.belH hb0⟩)
  rw [hr, hqn] at HT
  simp only [textV] at HT
  have hlt : ab < w.heap.size := World.block_lt_of_cell? (w := w) (a := ⟨ab, ao, none⟩) hd
  have hn0 : ((n : Int) == 0) = false := by rw [beq_eq_false_iff_ne]; omega
  have hnJ : (2 : Int) ≤ n := by omega
  have hnI : (1 : Int) ≤ n := by omega
  have hnc : (n : Int) ≤ c := by omega
  have hcm : (c : Int) ≤ 9223372036854775807 := by unfold maxLen at hmx; omega
  have hI4 : ((n : Int) - 1).toNat = n - 1 := by omega
  have hI5 : ((c : Int) - 1).toNat = c - 1 := by omega
  have hc1 : ¬ c = 1 := by omega
  have hq0 : (((n - 1 : Nat) : Int) == 0) = false := by rw [beq_eq_false_iff_ne]; omega
  have hq1 : (1 : Int) ≤ ((n - 1 : Nat) : Int) := by omega
  clear hmx hcn hqn hrq hr hs
  go_enter Tryz.func73, Tryz.ntmps73
  go_wp2_with fail
  refine HT.out.mono ?_
  rintro e w' ⟨rfl, rfl⟩
  go_wp2
  refine bodyPost_ret (v := .tuple #[.agg #[.int .i64 0, .int .i64 0, .int .u64 0, .string ⟨#[]⟩], .int .i64 0]) (by simp [results, Tryz.results73, go_sem]) rfl ⟨rfl, ?_⟩
  exact by (repeat (first | exact Below.refl _ _ | assumption | exact Bel.refl _ | refine Bel.alloc ?_ _ | refine Bel.drew ?_ | refine Bel.drewN ?_ _ | refine Bel.then_ ?_ (by assumption) | refine Bel.setCell ?_ (by first | (simp; done) | (simp; omega)) _))
set_option maxRecDepth 100000 in
set_option maxHeartbeats 1000000 in
theorem r4v_textLong (w : World) (cn : ByteArray) (z : Nat) (cnl : Bool) (ab ao n c : Nat) (hd : w.cell? ⟨ab, ao, none⟩ = some (.int .u8 1)) (hn : 2 ≤ n) (hcn : n ≤ c) (hmx : c ≤ maxLen) (q : List UInt8) (hs : q.length ≤ 1000000) (hqn : q.length = n - 1) (hrq : Reads w w.heap.size 1 (some ⟨ab, ao + 1, none⟩) q.length (q.map bv)) (x : List UInt8) (m : Nat) (hr : rdText q = some (x, m)) (hx : z < x.length) : Calls Tryz.prog 73 #[.agg #[.string cn, .int .i64 4, .int .i64 z, .bool cnl], .slice (some ⟨ab, ao, none⟩) n c] w (GivesV noVal 0 w) := by
  have hb0 : Bel w ((w.alloc (.cells #[.string cn, .int .i64 4, .int .i64 z, .bool cnl] 44)).alloc (.cells #[.int .i64 0, .int .i64 0, .int .u64 0, .string ⟨#[]⟩] 48)) := ((Bel.refl w).alloc _).alloc _
  have HT := Lib.hid (r2ReadText_any (.slice (some ⟨ab, ao + 1, none⟩) q.length (c - 1)) q hs ((w.alloc (.cells #[.string cn, .int .i64 4, .int .i64 z, .bool cnl] 44)).alloc (.cells #[.int .i64 0, .int .i64 0, .int .u64 0, .string ⟨#[]⟩] 48)) ⟨_, _, rfl, by omega, by omega, hrq.belH hb0⟩)
  rw [hr, hqn] at HT
  simp only [textV] at HT
  have hlt : ab < w.heap.size := World.block_lt_of_cell? (w := w) (a := ⟨ab, ao, none⟩) hd
  have hn0 : ((n : Int) == 0) = false := by rw [beq_eq_false_iff_ne]; omega
  have hnJ : (2 : Int) ≤ n := by omega
  have hnI : (1 : Int) ≤ n := by omega
  have hnc : (n : Int) ≤ c := by omega
  have hcm : (c : Int) ≤ 9223372036854775807 := by unfold maxLen at hmx; omega
  have hI4 : ((n : Int) - 1).toNat = n - 1 := by omega
  have hI5 : ((c : Int) - 1).toNat = c - 1 := by omega
  have hc1 : ¬ c = 1 := by omega
  have hq0 : (((n - 1 : Nat) : Int) == 0) = false := by rw [beq_eq_false_iff_ne]; omega
  have hq1 : (1 : Int) ≤ ((n - 1 : Nat) : Int) := by omega
  obtain ⟨hml, hm1, -, hxs⟩ := rdText_back hr
  have hmI : (m : Int) ≤ 1000000 := by omega
  have hcz : IntKind.i64.wrap (1 + (m : Int)) = ((1 + m : Nat) : Int) := by
    simp only [IntKind.wrap, IntKind.bits, IntKind.signed]
    simp
    omega
  obtain ⟨X, hX⟩ : ∃ X : ByteArray, X = ⟨x.toArray⟩ := ⟨_, rfl⟩
  have hXs : X.size = x.length := by rw [hX]; rfl
  unfold strV at HT
  rw [← hX] at HT
  have hxB : decide ((X.size : Int) ≤ z) = false := by rw [hXs]; simp; omega
  have hxC : decide ((X.size : Int) > z) = true := by rw [hXs]; simp; omega
  have hxD : decide ((z : Int) < X.size) = true := by rw [hXs]; simp; omega
  have hxE : decide (z < X.size) = true := by rw [hXs]; simp; omega
  have hXI : (X.size : Int) ≤ 1000000 := by omega
  clear hX hXs hx hxs hml hm1
  clear hmx hcn hqn hrq hr hs
  go_enter Tryz.func73, Tryz.ntmps73
  go_wp2_with fail
  refine HT.out.mono ?_
  rintro e w' ⟨rfl, rfl⟩
  go_wp2
  refine bodyPost_ret (v := .tuple #[.agg #[.int .i64 0, .int .i64 0, .int .u64 0, .string ⟨#[]⟩], .int .i64 0]) (by simp [results, Tryz.results73, go_sem]) rfl ⟨rfl, ?_⟩
  exact by (repeat (first | exact Below.refl _ _ | assumption | exact Bel.refl _ | refine Bel.alloc ?_ _ | refine Bel.drew ?_ | refine Bel.drewN ?_ _ | refine Bel.then_ ?_ (by assumption) | refine Bel.setCell ?_ (by first | (simp; done) | (simp; omega)) _))
set_option maxRecDepth 100000 in
set_option maxHeartbeats 1000000 in
theorem r4v_text (w : World) (cn : ByteArray) (z : Nat) (cnl : Bool) (ab ao n c : Nat) (hd : w.cell? ⟨ab, ao, none⟩ = some (.int .u8 1)) (hn : 2 ≤ n) (hcn : n ≤ c) (hmx : c ≤ maxLen) (q : List UInt8) (hs : q.length ≤ 1000000) (hqn : q.length = n - 1) (hrq : Reads w w.heap.size 1 (some ⟨ab, ao + 1, none⟩) q.length (q.map bv)) (x : List UInt8) (m : Nat) (hr : rdText q = some (x, m)) (hx : x.length ≤ z) : Calls Tryz.prog 73 #[.agg #[.string cn, .int .i64 4, .int .i64 z, .bool cnl], .slice (some ⟨ab, ao, none⟩) n c] w (GivesV ⟨4, 0, 0, ⟨x.toArray⟩⟩ (1 + m) w) := by
  have hb0 : Bel w ((w.alloc (.cells #[.string cn, .int .i64 4, .int .i64 z, .bool cnl] 44)).alloc (.cells #[.int .i64 0, .int .i64 0, .int .u64 0, .string ⟨#[]⟩] 48)) := ((Bel.refl w).alloc _).alloc _
  have HT := Lib.hid (r2ReadText_any (.slice (some ⟨ab, ao + 1, none⟩) q.length (c - 1)) q hs ((w.alloc (.cells #[.string cn, .int .i64 4, .int .i64 z, .bool cnl] 44)).alloc (.cells #[.int .i64 0, .int .i64 0, .int .u64 0, .string ⟨#[]⟩] 48)) ⟨_, _, rfl, by omega, by omega, hrq.belH hb0⟩)
  rw [hr, hqn] at HT
  simp only [textV] at HT
  have hlt : ab < w.heap.size := World.block_lt_of_cell? (w := w) (a := ⟨ab, ao, none⟩) hd
  have hn0 : ((n : Int) == 0) = false := by rw [beq_eq_false_iff_ne]; omega
  have hnJ : (2 : Int) ≤ n := by omega
  have hnI : (1 : Int) ≤ n := by omega
  have hnc : (n : Int) ≤ c := by omega
  have hcm : (c : Int) ≤ 9223372036854775807 := by unfold maxLen at hmx; omega
  have hI4 : ((n : Int) - 1).toNat = n - 1 := by omega
  have hI5 : ((c : Int) - 1).toNat = c - 1 := by omega
  have hc1 : ¬ c = 1 := by omega
  have hq0 : (((n - 1 : Nat) : Int) == 0) = false := by rw [beq_eq_false_iff_ne]; omega
  have hq1 : (1 : Int) ≤ ((n - 1 : Nat) : Int) := by omega
  obtain ⟨hml, hm1, -, hxs⟩ := rdText_back hr
  have hmI : (m : Int) ≤ 1000000 := by omega
  have hcz : IntKind.i64.wrap (1 + (m : Int)) = ((1 + m : Nat) : Int) := by
    simp only [IntKind.wrap, IntKind.bits, IntKind.signed]
    simp
    omega
  obtain ⟨X, hX⟩ : ∃ X : ByteArray, X = ⟨x.toArray⟩ := ⟨_, rfl⟩
  have hXs : X.size = x.length := by rw [hX]; rfl
  unfold strV at HT
  rw [← hX] at HT ⊢
  have hxB : decide ((X.size : Int) ≤ z) = true := by rw [hXs]; simp; omega
  have hxC : decide ((X.size : Int) > z) = false := by rw [hXs]; simp; omega
  have hxD : decide ((z : Int) < X.size) = false := by rw [hXs]; simp; omega
  have hxE : decide (z < X.size) = false := by rw [hXs]; simp; omega
  have hXI : (X.size : Int) ≤ 1000000 := by omega
  clear hX hXs hx hxs hml hm1
  clear hmx hcn hqn hrq hr hs
  go_enter Tryz.func73, Tryz.ntmps73
  go_wp2_with fail
  refine HT.out.mono ?_
  rintro e w' ⟨rfl, rfl⟩
  go_wp2
  refine bodyPost_ret (v := .tuple #[.agg #[.int .i64 4, .int .i64 0, .int .u64 0, .string X], .int .i64 ((1 + m : Nat) : Int)]) (by simp [results, Tryz.results73, go_sem, hcz]) rfl ⟨rfl, ?_⟩
  exact by (repeat (first | exact Below.refl _ _ | assumption | exact Bel.refl _ | refine Bel.alloc ?_ _ | refine Bel.drew ?_ | refine Bel.drewN ?_ _ | refine Bel.then_ ?_ (by assumption) | refine Bel.setCell ?_ (by first | (simp; done) | (simp; omega)) _))
end Go.Proofs.YtkklmflclmgjeaaGreatDoor

/-
  The codec: the document's value at any column.
-/
set_option linter.unusedVariables false
set_option linter.unusedSimpArgs false
set_option linter.unusedVariables false
set_option linter.unusedSimpArgs false
namespace Go.Proofs.YtkklmflclmgjeaaGreatDoor
open Go.RowKit Go.Shelf Go.Lib

def valR : Option (Val × Nat) → Val × Nat
  | some p => p
  | none => (noVal, 0)
theorem sgn_top {e : UInt8} {t : List UInt8} {z : Nat} (hz : z = t.length + 1) : (sgnN (numN (e :: t)) z = if 128 ≤ e.toNat then (numN (e :: t) : Int) - (256 ^ z : Nat) else numN (e :: t)) := by
  subst hz
  have h1 := numN_lt t
  have h2 : numN (e :: t) = e.toNat * 256 ^ t.length + numN t := numN_cons e t
  unfold sgnN
  have h3 : 256 ^ (t.length + 1) = 256 * 256 ^ t.length := by rw [Nat.pow_succ, Nat.mul_comm]
  by_cases he : 128 ≤ e.toNat
  · have : 128 * 256 ^ t.length ≤ e.toNat * 256 ^ t.length := Nat.mul_le_mul_right _ he
    rw [if_pos he, if_neg (by omega)]
  · have : e.toNat * 256 ^ t.length ≤ 127 * 256 ^ t.length := Nat.mul_le_mul_right _ (by omega)
    rw [if_neg he, if_pos (by omega)]
theorem r4value_any (c : Col) (hr : rightB c = true) (vb : Value) (s : List UInt8) (hs : s.length ≤ 1000000) (w : World) (hb : BsAt w vb s) : Calls Tryz.prog 73 #[c.v, vb] w (GivesV (valR (rdVal c s)).1 (valR (rdVal c s)).2 w) := by
  obtain ⟨A, cap, rfl, hn, hmx, hrd⟩ := hb
  obtain ⟨ht1, ht4, hnm, hzz⟩ := right_parts hr
  obtain ⟨cn, ct, cz, cnl⟩ := c
  unfold Col.v
  dsimp only at *
  cases s with
  | nil => exact r4v_nil w cn ct cz cnl A cap
  | cons d q =>
    obtain ⟨⟨ab, ao, asp⟩, rfl, hblt, hcc⟩ := hrd.2 (by simp)
    have hd' : w.cell? ⟨ab, ao, asp⟩ = some (bv d) := by have := hcc 0 (bv d) (by simp); simpa [Addr.add] using this
    have hd : w.cell? ⟨ab, ao, asp⟩ = some (.int .u8 d.toNat) := hd'
    obtain rfl : asp = none := World.cell?_spot hd
    have h1n : 1 ≤ (d :: q).length := by simp
    by_cases h1 : d.toNat = 1
    · rw [h1] at hd
      rw [rdVal_cons, if_pos h1]
      have hqn : (d :: q).length - 1 = q.length := by simp
      have hql : q.length ≤ 1000000 := by rw [List.length_cons] at hs; omega
      have hrq : Reads w w.heap.size 1 (some ⟨ab, ao + 1, none⟩) q.length (q.map bv) := hrd.rest 1 h1n
      have hcs : ct = 1 ∨ ct = 2 ∨ ct = 3 ∨ ct = 4 := by omega
      unfold rdBody
      dsimp only
      rcases hcs with rfl | rfl | rfl | rfl
      · rw [if_pos rfl]
        rcases size_num (.inl rfl) hzz with rfl | rfl | rfl | rfl
        · rw [show Int.toNat 1 = 1 from rfl]
          by_cases hl : q.length < 1
          · rw [if_pos hl]; exact r4v_short1 w cn cnl ab ao _ cap hd h1n hn hmx 1 (by omega) (by rw [hqn]; exact hl)
          · rw [if_neg hl]
            cases q with
            | nil => simp at hl
            | cons e t =>
              have he : w.cell? ⟨ab, ao + 1, none⟩ = some (.int .u8 e.toNat) := by
                obtain ⟨ad2, e2, -, hc2⟩ := hrq.2 (by simp)
                cases e2
                have := hc2 0 (bv e) (by simp)
                rw [add_free] at this
                exact this
              have hsg := sgn_top (e := e) (t := t.take 0) (z := 1) (by rw [List.length_take]; simp at hl; omega)
              rw [show e :: t.take 0 = (e :: t).take 1 from rfl] at hsg
              by_cases h128 : 128 ≤ e.toNat
              · rw [if_pos h128] at hsg
                rw [hsg]
                exact r4v_int1neg w cn cnl ab ao _ cap hd (by simp) hn hmx e.toNat he (e :: t) (by omega) (by rw [hqn]; omega) hrq h128
              · rw [if_neg h128] at hsg
                rw [hsg]
                exact r4v_int1pos w cn cnl ab ao _ cap hd (by simp) hn hmx e.toNat he (e :: t) (by omega) (by rw [hqn]; omega) hrq (by omega)
        · rw [show Int.toNat 2 = 2 from rfl]
          by_cases hl : q.length < 2
          · rw [if_pos hl]; exact r4v_short1 w cn cnl ab ao _ cap hd h1n hn hmx 2 (by omega) (by rw [hqn]; exact hl)
          · rw [if_neg hl]
            cases q with
            | nil => simp at hl
            | cons e t =>
              have he : w.cell? ⟨ab, ao + 1, none⟩ = some (.int .u8 e.toNat) := by
                obtain ⟨ad2, e2, -, hc2⟩ := hrq.2 (by simp)
                cases e2
                have := hc2 0 (bv e) (by simp)
                rw [add_free] at this
                exact this
              have hsg := sgn_top (e := e) (t := t.take 1) (z := 2) (by rw [List.length_take]; simp at hl; omega)
              rw [show e :: t.take 1 = (e :: t).take 2 from rfl] at hsg
              by_cases h128 : 128 ≤ e.toNat
              · rw [if_pos h128] at hsg
                rw [hsg]
                exact r4v_int2neg w cn cnl ab ao _ cap hd (by simp) hn hmx e.toNat he (e :: t) (by omega) (by rw [hqn]; omega) hrq h128
              · rw [if_neg h128] at hsg
                rw [hsg]
                exact r4v_int2pos w cn cnl ab ao _ cap hd (by simp) hn hmx e.toNat he (e :: t) (by omega) (by rw [hqn]; omega) hrq (by omega)
        · rw [show Int.toNat 4 = 4 from rfl]
          by_cases hl : q.length < 4
          · rw [if_pos hl]; exact r4v_short1 w cn cnl ab ao _ cap hd h1n hn hmx 4 (by omega) (by rw [hqn]; exact hl)
          · rw [if_neg hl]
            cases q with
            | nil => simp at hl
            | cons e t =>
              have he : w.cell? ⟨ab, ao + 1, none⟩ = some (.int .u8 e.toNat) := by
                obtain ⟨ad2, e2, -, hc2⟩ := hrq.2 (by simp)
                cases e2
                have := hc2 0 (bv e) (by simp)
                rw [add_free] at this
                exact this
              have hsg := sgn_top (e := e) (t := t.take 3) (z := 4) (by rw [List.length_take]; simp at hl; omega)
              rw [show e :: t.take 3 = (e :: t).take 4 from rfl] at hsg
              by_cases h128 : 128 ≤ e.toNat
              · rw [if_pos h128] at hsg
                rw [hsg]
                exact r4v_int4neg w cn cnl ab ao _ cap hd (by simp) hn hmx e.toNat he (e :: t) (by omega) (by rw [hqn]; omega) hrq h128
              · rw [if_neg h128] at hsg
                rw [hsg]
                exact r4v_int4pos w cn cnl ab ao _ cap hd (by simp) hn hmx e.toNat he (e :: t) (by omega) (by rw [hqn]; omega) hrq (by omega)
        · rw [show Int.toNat 8 = 8 from rfl]
          by_cases hl : q.length < 8
          · rw [if_pos hl]; exact r4v_short1 w cn cnl ab ao _ cap hd h1n hn hmx 8 (by omega) (by rw [hqn]; exact hl)
          · rw [if_neg hl]
            exact r4v_int8all w cn cnl ab ao _ cap hd (by rw [List.length_cons]; omega) hn hmx q (by omega) (by rw [hqn]; omega) hrq
      · rw [if_neg (by decide), if_pos rfl]
        have hz := size_num (.inr rfl) hzz
        obtain ⟨k, rfl⟩ : ∃ k : Nat, cz = k := ⟨cz.toNat, by omega⟩
        rw [Int.toNat_natCast]
        by_cases hl : q.length < k
        · rw [if_pos hl]; exact r4v_short2 w cn cnl ab ao _ cap hd h1n hn hmx k (by omega) (by rw [hqn]; exact hl)
        · rw [if_neg hl]
          exact r4v_uint w cn cnl ab ao _ cap hd (by rw [List.length_cons]; omega) hn hmx k (by omega) (by omega) q (by omega) (by rw [hqn]; omega) hrq
      · rw [if_neg (by decide), if_neg (by decide), if_pos rfl]
        cases q with
        | nil => exact r4v_bool0 w cn cz cnl ab ao cap hd (by simpa using hn) hmx
        | cons e t =>
          have he : w.cell? ⟨ab, ao + 1, none⟩ = some (.int .u8 e.toNat) := by
            obtain ⟨ad2, e2, -, hc2⟩ := hrq.2 (by simp)
            cases e2
            have := hc2 0 (bv e) (by simp)
            rw [add_free] at this
            exact this
          dsimp only
          by_cases h128 : 1 < e.toNat
          · rw [if_pos h128]; exact r4v_boolBad w cn cz cnl ab ao _ cap hd (by simp) hn hmx e.toNat he h128
          · rw [if_neg h128]; exact r4v_bool w cn cz cnl ab ao _ cap hd (by simp) hn hmx e.toNat he (by omega)
      · rw [if_neg (by decide), if_neg (by decide), if_neg (by decide)]
        have hz0 : 0 ≤ cz := by
          unfold sizeB at hzz
          simp at hzz
          omega
        obtain ⟨k, rfl⟩ : ∃ k : Nat, cz = k := ⟨cz.toNat, by omega⟩
        cases q with
        | nil => exact r4v_text0 w cn k cnl ab ao cap hd (by simpa using hn) hmx
        | cons e t =>
          cases hx : rdText (e :: t) with
          | none => exact r4v_textNone w cn k cnl ab ao _ cap hd (by simp) hn hmx (e :: t) hql (by simp) hrq hx
          | some p =>
            obtain ⟨x, m⟩ := p
            dsimp only
            by_cases hlx : (k : Int) < x.length
            · rw [if_pos hlx]; exact r4v_textLong w cn k cnl ab ao _ cap hd (by simp) hn hmx (e :: t) hql (by simp) hrq x m hx (by omega)
            · rw [if_neg hlx]; exact r4v_text w cn k cnl ab ao _ cap hd (by simp) hn hmx (e :: t) hql (by simp) hrq x m hx (by omega)
    · by_cases h0 : d.toNat = 0 ∧ cnl = true
      · obtain ⟨hz, rfl⟩ := h0
        rw [rdVal_cons, if_neg h1, if_pos ⟨hz, rfl⟩]
        rw [hz] at hd
        exact r4v_null w cn ct cz ab ao _ cap hd h1n
      · rw [rdVal_cons, if_neg h1, if_neg h0]
        by_cases hz : d.toNat = 0
        · have hnl : cnl = false := by cases cnl; rfl; exact absurd ⟨hz, rfl⟩ h0
          subst hnl
          rw [hz] at hd
          exact r4v_nonull w cn ct cz ab ao _ cap hd h1n
        · exact r4v_bad w cn ct cz cnl ab ao _ cap d.toNat hd h1n (by omega)
end Go.Proofs.YtkklmflclmgjeaaGreatDoor

/-
  The codec: the document's Read.
-/
set_option linter.unusedVariables false
set_option linter.unusedSimpArgs false
set_option linter.unusedVariables false
set_option linter.unusedSimpArgs false
namespace Go.Proofs.YtkklmflclmgjeaaGreatDoor
open Go.RowKit Go.Shelf Go.Lib

/-- What the document's Read hands back. -/
def GivesRead4 (o : Option (List Val × Nat)) (w : World) (e : Ending) (w' : World) : Prop := match o with
  | some (l, m) => ∃ v, e = .returned (.tuple #[v, .int .i64 m]) ∧ w'.ownsRow (w.heap.size + 1) 48 4 v l.length (vrows l) ∧ Bel w w'
  | none => e = .returned (.tuple #[.slice none 0 0, .int .i64 0]) ∧ Bel w w'
theorem wp_meet {P : Program} {c : Code} {Q Q' : Exit → Act → World → Prop} {a : Act} {w : World} (h : c.wp P Q' a w) (k : ∀ e a' V, Q' e a' V → Q e a' V) : c.wp P Q a w := Code.wp_mono k h
set_option maxRecDepth 100000 in
set_option maxHeartbeats 8000000 in
theorem r4Read_any (vc vk vu vb : Value) (cols : List Col) (hr : ∀ c ∈ cols, rightB c = true) (hm : cols.length ≤ 1000) (s : List UInt8) (hs : s.length ≤ 1000000) (w : World) (hc : ColsAt w vc cols) (hb : BsAt w vb s) :
    Calls Tryz.prog 44 #[.agg #[vc, vk, vu], vb] w (GivesRead4 (rdRow cols s) w) := by
  obtain ⟨R, hR⟩ : ∃ R, R = rdRow cols s := ⟨_, rfl⟩
  rw [← hR]
  have HR := Lib.hid hR
  clear hR
  obtain ⟨Ac, cc, rfl, hcc, hmc, hrc⟩ := hc
  obtain ⟨Ab, cb, rfl, hbn, hbm, hrb⟩ := hb
  have hcI : (cols.length : Int) ≤ 1000 := by omega
  have hsI : (s.length : Int) ≤ 1000000 := by omega
  have HRC := Lib.hid hrc
  have HRB := Lib.hid hrb
  have HRT := Lib.hid hr
  have HBM := Lib.hid (And.intro hbn hbm)
  obtain ⟨i0, hi0, hz0, hz1, hz2⟩ := info_parts infoV
  have hp2 : (0 : Nat) < 4 := by omega
  clear hrc hrb hr hcc hmc hbn hbm
  go_enter Tryz.func44, Tryz.ntmps44
  go_wp2
  go_loopw [6, 7, 8] (fun a v i wr => ∃ (k m : Nat) (L : List Val), k ≤ cols.length ∧ m ≤ s.length ∧ i = .int .i64 k ∧ a = .int .i64 m ∧ (∃ A c, v = .slice A k c) ∧ Hid (rdRow (cols.take k) s = some (L, m) ∧ L.length = k) ∧ Hid (Bel (w.alloc (.cells #[.slice Ac cols.length cc, vk, vu] 26)) wr ∧ wr.ownsRow (w.heap.size + 1) 48 4 v k (vrows L))) (fun a v i _ => cols.length - (intOf i).toNat)
  case atStart => exact ⟨0, 0, [], Nat.zero_le _, Nat.zero_le _, rfl, rfl, ⟨none, 0, rfl⟩, ⟨rfl, rfl⟩, Bel.refl _, World.ownsRow_nil _ _ _ _⟩
  case round =>
    obtain ⟨k, m, L, hk, hml, rfl, rfl, ⟨A, c, rfl⟩, HL, HO⟩ := hrel
    have l0 : wr.cell? ⟨w.heap.size, 0, none⟩ = some (.slice Ac cols.length cc) := HO.out.1.c (by go_simp)
    by_cases hlt : k < cols.length
    · have hkI : (k : Int) < cols.length := by omega
      obtain ⟨co, hco⟩ : ∃ co, cols[k]? = some co := ⟨_, List.getElem?_eq_getElem hlt⟩
      obtain ⟨bc, oc, rfl, hci⟩ := HRC.out (by omega)
      obtain ⟨q0, q1, q2, q3⟩ := hci k co hco
      have hBw : Bel w wr := ((Bel.refl w).alloc _).then_ HO.out.1
      have c0 := hBw.c q0
      have c1 := hBw.c q1
      have c2 := hBw.c q2
      have c3 := hBw.c q3
      have htk : cols.take (k + 1) = cols.take k ++ [co] := by rw [List.take_add_one, hco]; rfl
      have hrco := HRT.out co (List.mem_of_getElem? hco)
      have HTK : Hid (rdRow (cols.take (k + 1)) s = match rdVal co (s.drop m) with
          | none => none
          | some (x, n) => some (L ++ [x], m + n)) := by
        show _ = _
        rw [htk, rdRow_app, HL.out.1]
        dsimp only
        rw [rdRow_one]
        cases rdVal co (s.drop m) <;> rfl
      have HBAD : Hid (rdVal co (s.drop m) = none → R = none) := fun e => by
        rw [HR.out]
        have h1 : rdRow (cols.take (k + 1) ++ cols.drop (k + 1)) s = none := by rw [rdRow_app, HTK.out, e]
        rwa [List.take_append_drop] at h1
      have hdl : (s.drop m).length = s.length - m := List.length_drop
      have HBK : Hid (∀ x n, rdVal co (s.drop m) = some (x, n) → 1 ≤ n ∧ n ≤ s.length - m) := fun x n h => by
        obtain ⟨h1, h2, -⟩ := rdVal_back hrco h
        rw [hdl] at h2
        exact ⟨h1, h2⟩
      obtain ⟨cn, ct, cz, cnl⟩ := co
      dsimp only at *
      have hmI : (m : Int) ≤ s.length := by omega
      have hbI : (s.length : Int) ≤ cb := by have := HBM.out.1; omega
      have hbJ : (cb : Int) ≤ 9223372036854775807 := by have := HBM.out.2; unfold maxLen at this; omega
      have HS : Hid (∀ V, Bel wr V → (fun V : World => Bel wr V ∧ V.cell? ⟨w.heap.size, 0, none⟩ = some (.slice (some ⟨bc, oc, none⟩) cols.length cc) ∧ (V.cell? ⟨bc, oc + k * 4, none⟩ = some (.string cn) ∧ V.cell? ⟨bc, oc + k * 4 + 1, none⟩ = some (.int .i64 ct) ∧ V.cell? ⟨bc, oc + k * 4 + 2, none⟩ = some (.int .i64 cz) ∧ V.cell? ⟨bc, oc + k * 4 + 3, none⟩ = some (.bool cnl))) V) := fun V h => ⟨h, h.c l0, h.c c0, h.c c1, h.c c2, h.c c3⟩
      have hwsz : w.heap.size < wr.heap.size := World.block_lt_of_cell? (w := wr) (a := ⟨w.heap.size, 0, none⟩) l0
      have hbcl : bc < wr.heap.size := World.block_lt_of_cell? (w := wr) (a := ⟨bc, oc + k * 4, none⟩) c0
      have hI4 : ((s.length : Int) - m).toNat = s.length - m := by omega
      have hI5 : ((cb : Int) - m).toNat = cb - m := by omega
      clear hco hci htk q0 q1 q2 q3 hBw
      cases Ab with
      | none =>
        obtain rfl : s = [] := by
          cases s with
          | nil => rfl
          | cons d s => have := HRB.out.2 (by simp); obtain ⟨_, h, -⟩ := this; cases h
        obtain rfl : m = 0 := by simpa using hml
        have hv : rdVal ⟨cn, ct, cz, cnl⟩ (List.drop 0 []) = none := rfl
        obtain rfl : R = none := HBAD.out hv
        obtain ⟨X, N, hXN⟩ : ∃ X N, ((noVal, 0) : Val × Nat) = (X, N) := ⟨_, _, rfl⟩
        have HVAL : Hid (∀ V, Bel wr V → Calls Tryz.prog 73 #[.agg #[.string cn, .int .i64 ct, .int .i64 cz, .bool cnl], .slice none 0 cb] V (GivesV X N V)) := fun V h => by
          injection hXN with e1 e2
          subst e1 e2
          exact r4v_nil V cn ct cz cnl none cb
        have HXN := Lib.hid hXN
        clear HRB hXN
        go_wp2_with fail
        refine wp_meet (Q' := fun e a' V => ∃ (g : Nat) (z4 z5 z11 z12 z13 z14 z15 z16 z17 z18 z19 z20 z21 z22 z23 z24 z25 z26 z27 z28 z29 z30 z31 z32 z33 z34 z35 z36 z37 z38 : Value), e = .normal ∧ a' = { tmps := #[.agg #[.slice (some ⟨bc, oc, none⟩) cols.length cc, vk, vu], .slice none 0 cb, .pointer (some ⟨w.heap.size, 0, none⟩), undef, z4, z5, .int .i64 0, .slice A k c, .int .i64 k, .pointer (some ⟨g, 0, none⟩), .int .i64 N, z11, z12, z13, z14, z15, z16, z17, z18, z19, z20, z21, z22, z23, z24, z25, z26, z27, z28, z29, z30, z31, z32, z33, z34, z35, z36, z37, z38, undef, undef], defers := [] } ∧ Bel wr V ∧ w.heap.size < g ∧ V.cell? ⟨g, 0, none⟩ = some (.int .i64 X.k) ∧ V.cell? ⟨g, 1, none⟩ = some (.int .i64 X.n) ∧ V.cell? ⟨g, 2, none⟩ = some (.int .u64 X.u) ∧ V.cell? ⟨g, 3, none⟩ = some (.string X.b)) ?_ ?_
        · refine wp_region_noPanic ?_
          refine wp_region_held_drew (S := (fun V : World => Bel wr V ∧ V.cell? ⟨w.heap.size, 0, none⟩ = some (.slice (some ⟨bc, oc, none⟩) cols.length cc) ∧ (V.cell? ⟨bc, oc + k * 4, none⟩ = some (.string cn) ∧ V.cell? ⟨bc, oc + k * 4 + 1, none⟩ = some (.int .i64 ct) ∧ V.cell? ⟨bc, oc + k * 4 + 2, none⟩ = some (.int .i64 cz) ∧ V.cell? ⟨bc, oc + k * 4 + 3, none⟩ = some (.bool cnl)))) (by kernel_rfl) ?_ (fun hHr1_0 => ?_)
          · (try dsimp only); (first | assumption | exact HS.out _ (Bel.refl wr).drew | exact HS.out _ hb11 | exact HS.out _ ((Bel.refl wr).drew.alloc _) | exact HS.out _ (hb11.alloc _) | exact HS.out _ ((((hb11.setCell (Nat.le_refl _) _).setCell (Nat.le_refl _) _).setCell (Nat.le_refl _) _).setCell (Nat.le_refl _) _))
          refine wpAnyH_take (i := 0) (oi := _) (v := ?vr1_1_0) rfl (by kernel_rfl) (by kernel_rfl) (by kernel_rfl) ?hqr1_1_0 (Or.inl ⟨by kernel_rfl, ?hyr1_1_0⟩) (by assumption) ?restr1_1_0
          case hqr1_1_0 => exact fun _ _ _ h => h
          case hyr1_1_0 => (intro w hSw; (try dsimp only at hSw); go_simp; try with_reducible rfl)
          try simp only [Act.put, List.getElem_toArray, List.getElem_cons_succ, List.getElem_cons_zero, List.setIfInBounds_toArray, List.set_cons_zero, List.set_cons_succ]
          refine wpAnyH_take (i := 1) (oi := _) (v := ?vr1_1_1) rfl (by kernel_rfl) (by kernel_rfl) (by kernel_rfl) ?hqr1_1_1 (Or.inl ⟨by kernel_rfl, ?hyr1_1_1⟩) (by assumption) ?restr1_1_1
          case hqr1_1_1 => exact fun _ _ _ h => h
          case hyr1_1_1 => (intro w hSw; (try dsimp only at hSw); go_simp; try with_reducible rfl)
          try simp only [Act.put, List.getElem_toArray, List.getElem_cons_succ, List.getElem_cons_zero, List.setIfInBounds_toArray, List.set_cons_zero, List.set_cons_succ]
          refine wpAnyH_take (i := 2) (oi := _) (v := ?vr1_1_2) rfl (by kernel_rfl) (by kernel_rfl) (by kernel_rfl) ?hqr1_1_2 (Or.inl ⟨by kernel_rfl, ?hyr1_1_2⟩) (by assumption) ?restr1_1_2
          case hqr1_1_2 => exact fun _ _ _ h => h
          case hyr1_1_2 => (intro w hSw; (try dsimp only at hSw); go_simp; try with_reducible rfl)
          try simp only [Act.put, List.getElem_toArray, List.getElem_cons_succ, List.getElem_cons_zero, List.setIfInBounds_toArray, List.set_cons_zero, List.set_cons_succ]
          refine wpAnyH_take (i := 3) (oi := _) (v := ?vr1_1_3) rfl (by kernel_rfl) (by kernel_rfl) (by kernel_rfl) ?hqr1_1_3 (Or.inl ⟨by kernel_rfl, ?hyr1_1_3⟩) (by assumption) ?restr1_1_3
          case hqr1_1_3 => exact fun _ _ _ h => h
          case hyr1_1_3 => (intro w hSw; (try dsimp only at hSw); go_simp; try with_reducible rfl)
          try simp only [Act.put, List.getElem_toArray, List.getElem_cons_succ, List.getElem_cons_zero, List.setIfInBounds_toArray, List.set_cons_zero, List.set_cons_succ]
          refine wpAnyH_take (i := 4) (oi := _) (v := ?vr1_1_4) rfl (by kernel_rfl) (by kernel_rfl) (by kernel_rfl) ?hqr1_1_4 (Or.inl ⟨by kernel_rfl, ?hyr1_1_4⟩) (by assumption) ?restr1_1_4
          case hqr1_1_4 => exact fun _ _ _ h => h
          case hyr1_1_4 => (intro w hSw; (try dsimp only at hSw); go_simp; try with_reducible rfl)
          try simp only [Act.put, List.getElem_toArray, List.getElem_cons_succ, List.getElem_cons_zero, List.setIfInBounds_toArray, List.set_cons_zero, List.set_cons_succ]
          refine wpAnyH_take (i := 5) (oi := _) (v := ?vr1_1_5) rfl (by kernel_rfl) (by kernel_rfl) (by kernel_rfl) ?hqr1_1_5 (Or.inl ⟨by kernel_rfl, ?hyr1_1_5⟩) (by assumption) ?restr1_1_5
          case hqr1_1_5 => exact fun _ _ _ h => h
          case hyr1_1_5 => (intro w hSw; (try dsimp only at hSw); go_simp; try with_reducible rfl)
          try simp only [Act.put, List.getElem_toArray, List.getElem_cons_succ, List.getElem_cons_zero, List.setIfInBounds_toArray, List.set_cons_zero, List.set_cons_succ]
          refine wpAnyH_take (i := 6) (oi := _) (v := ?vr1_1_6) rfl (by kernel_rfl) (by kernel_rfl) (by kernel_rfl) ?hqr1_1_6 (Or.inl ⟨by kernel_rfl, ?hyr1_1_6⟩) (by assumption) ?restr1_1_6
          case hqr1_1_6 => exact fun _ _ _ h => h
          case hyr1_1_6 => (intro w hSw; (try dsimp only at hSw); go_simp; try with_reducible rfl)
          try simp only [Act.put, List.getElem_toArray, List.getElem_cons_succ, List.getElem_cons_zero, List.setIfInBounds_toArray, List.set_cons_zero, List.set_cons_succ]
          refine wpAnyH_take (i := 7) (oi := _) (v := ?vr1_1_7) rfl (by kernel_rfl) (by kernel_rfl) (by kernel_rfl) ?hqr1_1_7 (Or.inl ⟨by kernel_rfl, ?hyr1_1_7⟩) (by assumption) ?restr1_1_7
          case hqr1_1_7 => exact fun _ _ _ h => h
          case hyr1_1_7 => (intro w hSw; (try dsimp only at hSw); go_simp; try with_reducible rfl)
          try simp only [Act.put, List.getElem_toArray, List.getElem_cons_succ, List.getElem_cons_zero, List.setIfInBounds_toArray, List.set_cons_zero, List.set_cons_succ]
          refine wpAnyH_ready (rs := [8, 12]) (by kernel_rfl) (by simp) ?_
          refine AllReadyH.cons (o := _) rfl (fun K hK => ?_) (AllReadyH.cons (o := _) rfl (fun K hK => ?_) (AllReadyH.nil))
          · go_simp
            (go_at_call 73; refine (HVAL.out _ (Bel.refl wr).drew).mono ?_; rintro e w10 ⟨rfl, hb10⟩; have hb11 := (Bel.refl wr).drew.then_ hb10)
            try (go_wp2_with fail)
            refine hK.out _ _ ?_ (fun hHr1_1 => ?_)
            · (try dsimp only); (first | assumption | exact HS.out _ (Bel.refl wr).drew | exact HS.out _ hb11 | exact HS.out _ ((Bel.refl wr).drew.alloc _) | exact HS.out _ (hb11.alloc _) | exact HS.out _ ((((hb11.setCell (Nat.le_refl _) _).setCell (Nat.le_refl _) _).setCell (Nat.le_refl _) _).setCell (Nat.le_refl _) _))
            clear hK K hHr1_0
            try simp only [Act.put, List.getElem_toArray, List.getElem_cons_succ, List.getElem_cons_zero, List.setIfInBounds_toArray, List.set_cons_zero, List.set_cons_succ]
            refine wpAnyH_take (i := 9) (oi := _) (v := ?vr1_2_9) rfl (by kernel_rfl) (by kernel_rfl) (by kernel_rfl) ?hqr1_2_9 (Or.inl ⟨by kernel_rfl, ?hyr1_2_9⟩) (by assumption) ?restr1_2_9
            case hqr1_2_9 => exact fun _ _ _ h => h
            case hyr1_2_9 => (intro w hSw; (try dsimp only at hSw); go_simp; try with_reducible rfl)
            try simp only [Act.put, List.getElem_toArray, List.getElem_cons_succ, List.getElem_cons_zero, List.setIfInBounds_toArray, List.set_cons_zero, List.set_cons_succ]
            refine wpAnyH_take (i := 10) (oi := _) (v := ?vr1_2_10) rfl (by kernel_rfl) (by kernel_rfl) (by kernel_rfl) ?hqr1_2_10 (Or.inl ⟨by kernel_rfl, ?hyr1_2_10⟩) (by assumption) ?restr1_2_10
            case hqr1_2_10 => exact fun _ _ _ h => h
            case hyr1_2_10 => (intro w hSw; (try dsimp only at hSw); go_simp; try with_reducible rfl)
            try simp only [Act.put, List.getElem_toArray, List.getElem_cons_succ, List.getElem_cons_zero, List.setIfInBounds_toArray, List.set_cons_zero, List.set_cons_succ]
            refine wpAnyH_take (i := 11) (oi := _) (v := ?vr1_2_11) rfl (by kernel_rfl) (by kernel_rfl) (by kernel_rfl) ?hqr1_2_11 (Or.inl ⟨by kernel_rfl, ?hyr1_2_11⟩) (by assumption) ?restr1_2_11
            case hqr1_2_11 => exact fun _ _ _ h => h
            case hyr1_2_11 => (intro w hSw; (try dsimp only at hSw); go_simp; try with_reducible rfl)
            try simp only [Act.put, List.getElem_toArray, List.getElem_cons_succ, List.getElem_cons_zero, List.setIfInBounds_toArray, List.set_cons_zero, List.set_cons_succ]
            refine wpAnyH_ready (rs := [12]) (by kernel_rfl) (by simp) ?_
            refine AllReadyH.cons (o := _) rfl (fun K hK => ?_) AllReadyH.nil
            go_simp
            refine hK.out _ _ ?_ (fun hHr1_2 => ?_)
            · (try dsimp only); (first | assumption | exact HS.out _ (Bel.refl wr).drew | exact HS.out _ hb11 | exact HS.out _ ((Bel.refl wr).drew.alloc _) | exact HS.out _ (hb11.alloc _) | exact HS.out _ ((((hb11.setCell (Nat.le_refl _) _).setCell (Nat.le_refl _) _).setCell (Nat.le_refl _) _).setCell (Nat.le_refl _) _))
            clear hK K hHr1_1
            try simp only [Act.put, List.getElem_toArray, List.getElem_cons_succ, List.getElem_cons_zero, List.setIfInBounds_toArray, List.set_cons_zero, List.set_cons_succ]
            refine wpAnyH_ready (rs := [13]) (by kernel_rfl) (by simp) ?_
            refine AllReadyH.cons (o := _) rfl (fun K hK => ?_) AllReadyH.nil
            go_simp
            refine hK.out _ _ ?_ (fun hHr1_3 => ?_)
            · (try dsimp only); (first | assumption | exact HS.out _ (Bel.refl wr).drew | exact HS.out _ hb11 | exact HS.out _ ((Bel.refl wr).drew.alloc _) | exact HS.out _ (hb11.alloc _) | exact HS.out _ ((((hb11.setCell (Nat.le_refl _) _).setCell (Nat.le_refl _) _).setCell (Nat.le_refl _) _).setCell (Nat.le_refl _) _))
            clear hK K hHr1_2
            try simp only [Act.put, List.getElem_toArray, List.getElem_cons_succ, List.getElem_cons_zero, List.setIfInBounds_toArray, List.set_cons_zero, List.set_cons_succ]
            refine wpAnyH_ready (rs := [14]) (by kernel_rfl) (by simp) ?_
            refine AllReadyH.cons (o := _) rfl (fun K hK => ?_) AllReadyH.nil
            go_simp
            refine hK.out _ _ ?_ (fun hHr1_4 => ?_)
            · (try dsimp only); (first | assumption | exact HS.out _ (Bel.refl wr).drew | exact HS.out _ hb11 | exact HS.out _ ((Bel.refl wr).drew.alloc _) | exact HS.out _ (hb11.alloc _) | exact HS.out _ ((((hb11.setCell (Nat.le_refl _) _).setCell (Nat.le_refl _) _).setCell (Nat.le_refl _) _).setCell (Nat.le_refl _) _))
            clear hK K hHr1_3
            try simp only [Act.put, List.getElem_toArray, List.getElem_cons_succ, List.getElem_cons_zero, List.setIfInBounds_toArray, List.set_cons_zero, List.set_cons_succ]
            refine wpAnyH_done (by kernel_rfl) ?_ _
            refine NoPanic.normal ?_
            (exact ⟨_, _, _, _, _, _, _, _, _, _, _, _, _, _, _, _, _, _, _, _, _, _, _, _, _, _, _, _, _, _, _, rfl, rfl, hb11.alloc _, Nat.lt_of_lt_of_le hwsz hb11.size, by go_simp, by go_simp, by go_simp, by go_simp⟩)
          · go_simp
            refine hK.out _ _ ?_ (fun hHr1_1 => ?_)
            · (try dsimp only); (first | assumption | exact HS.out _ (Bel.refl wr).drew | exact HS.out _ hb11 | exact HS.out _ ((Bel.refl wr).drew.alloc _) | exact HS.out _ (hb11.alloc _) | exact HS.out _ ((((hb11.setCell (Nat.le_refl _) _).setCell (Nat.le_refl _) _).setCell (Nat.le_refl _) _).setCell (Nat.le_refl _) _))
            clear hK K hHr1_0
            try simp only [Act.put, List.getElem_toArray, List.getElem_cons_succ, List.getElem_cons_zero, List.setIfInBounds_toArray, List.set_cons_zero, List.set_cons_succ]
            refine wpAnyH_ready (rs := [8]) (by kernel_rfl) (by simp) ?_
            refine AllReadyH.cons (o := _) rfl (fun K hK => ?_) AllReadyH.nil
            go_simp
            (go_at_call 73; refine (HVAL.out _ ((Bel.refl wr).drew.alloc _)).mono ?_; rintro e w10 ⟨rfl, hb10⟩; have hb11 := ((Bel.refl wr).drew.alloc _).then_ hb10; have y0 := hb10.c (p := ⟨wr.heap.size, 0, none⟩) (v := .int .i64 0) (by go_simp); have y1 := hb10.c (p := ⟨wr.heap.size, 1, none⟩) (v := .int .i64 0) (by go_simp); have y2 := hb10.c (p := ⟨wr.heap.size, 2, none⟩) (v := .int .u64 0) (by go_simp); have y3 := hb10.c (p := ⟨wr.heap.size, 3, none⟩) (v := .string ⟨#[]⟩) (by go_simp); have x0 := hb10.f (p := ⟨wr.heap.size, 0, none⟩) (v := .int .i64 0) (by go_simp) (by go_simp); have x1 := hb10.f (p := ⟨wr.heap.size, 1, none⟩) (v := .int .i64 0) (by go_simp) (by go_simp); have x2 := hb10.f (p := ⟨wr.heap.size, 2, none⟩) (v := .int .u64 0) (by go_simp) (by go_simp); have x3 := hb10.f (p := ⟨wr.heap.size, 3, none⟩) (v := .string ⟨#[]⟩) (by go_simp) (by go_simp))
            try (go_wp2_with fail)
            refine hK.out _ _ ?_ (fun hHr1_2 => ?_)
            · (try dsimp only); (first | assumption | exact HS.out _ (Bel.refl wr).drew | exact HS.out _ hb11 | exact HS.out _ ((Bel.refl wr).drew.alloc _) | exact HS.out _ (hb11.alloc _) | exact HS.out _ ((((hb11.setCell (Nat.le_refl _) _).setCell (Nat.le_refl _) _).setCell (Nat.le_refl _) _).setCell (Nat.le_refl _) _))
            clear hK K hHr1_1
            try simp only [Act.put, List.getElem_toArray, List.getElem_cons_succ, List.getElem_cons_zero, List.setIfInBounds_toArray, List.set_cons_zero, List.set_cons_succ]
            refine wpAnyH_take (i := 9) (oi := _) (v := ?vr1_3_9) rfl (by kernel_rfl) (by kernel_rfl) (by kernel_rfl) ?hqr1_3_9 (Or.inl ⟨by kernel_rfl, ?hyr1_3_9⟩) (by assumption) ?restr1_3_9
            case hqr1_3_9 => exact fun _ _ _ h => h
            case hyr1_3_9 => (intro w hSw; (try dsimp only at hSw); go_simp; try with_reducible rfl)
            try simp only [Act.put, List.getElem_toArray, List.getElem_cons_succ, List.getElem_cons_zero, List.setIfInBounds_toArray, List.set_cons_zero, List.set_cons_succ]
            refine wpAnyH_take (i := 10) (oi := _) (v := ?vr1_3_10) rfl (by kernel_rfl) (by kernel_rfl) (by kernel_rfl) ?hqr1_3_10 (Or.inl ⟨by kernel_rfl, ?hyr1_3_10⟩) (by assumption) ?restr1_3_10
            case hqr1_3_10 => exact fun _ _ _ h => h
            case hyr1_3_10 => (intro w hSw; (try dsimp only at hSw); go_simp; try with_reducible rfl)
            try simp only [Act.put, List.getElem_toArray, List.getElem_cons_succ, List.getElem_cons_zero, List.setIfInBounds_toArray, List.set_cons_zero, List.set_cons_succ]
            refine wpAnyH_take (i := 11) (oi := _) (v := ?vr1_3_11) rfl (by kernel_rfl) (by kernel_rfl) (by kernel_rfl) ?hqr1_3_11 (Or.inl ⟨by kernel_rfl, ?hyr1_3_11⟩) (by assumption) ?restr1_3_11
            case hqr1_3_11 => exact fun _ _ _ h => h
            case hyr1_3_11 => (intro w hSw; (try dsimp only at hSw); go_simp; try with_reducible rfl)
            try simp only [Act.put, List.getElem_toArray, List.getElem_cons_succ, List.getElem_cons_zero, List.setIfInBounds_toArray, List.set_cons_zero, List.set_cons_succ]
            refine wpAnyH_ready (rs := [13]) (by kernel_rfl) (by simp) ?_
            refine AllReadyH.cons (o := _) rfl (fun K hK => ?_) AllReadyH.nil
            go_simp
            refine hK.out _ _ ?_ (fun hHr1_3 => ?_)
            · (try dsimp only); (first | assumption | exact HS.out _ (Bel.refl wr).drew | exact HS.out _ hb11 | exact HS.out _ ((Bel.refl wr).drew.alloc _) | exact HS.out _ (hb11.alloc _) | exact HS.out _ ((((hb11.setCell (Nat.le_refl _) _).setCell (Nat.le_refl _) _).setCell (Nat.le_refl _) _).setCell (Nat.le_refl _) _))
            clear hK K hHr1_2
            try simp only [Act.put, List.getElem_toArray, List.getElem_cons_succ, List.getElem_cons_zero, List.setIfInBounds_toArray, List.set_cons_zero, List.set_cons_succ]
            refine wpAnyH_ready (rs := [14]) (by kernel_rfl) (by simp) ?_
            refine AllReadyH.cons (o := _) rfl (fun K hK => ?_) AllReadyH.nil
            go_simp
            refine hK.out _ _ ?_ (fun hHr1_4 => ?_)
            · (try dsimp only); (first | assumption | exact HS.out _ (Bel.refl wr).drew | exact HS.out _ hb11 | exact HS.out _ ((Bel.refl wr).drew.alloc _) | exact HS.out _ (hb11.alloc _) | exact HS.out _ ((((hb11.setCell (Nat.le_refl _) _).setCell (Nat.le_refl _) _).setCell (Nat.le_refl _) _).setCell (Nat.le_refl _) _))
            clear hK K hHr1_3
            try simp only [Act.put, List.getElem_toArray, List.getElem_cons_succ, List.getElem_cons_zero, List.setIfInBounds_toArray, List.set_cons_zero, List.set_cons_succ]
            refine wpAnyH_done (by kernel_rfl) ?_ _
            refine NoPanic.normal ?_
            (exact ⟨_, _, _, _, _, _, _, _, _, _, _, _, _, _, _, _, _, _, _, _, _, _, _, _, _, _, _, _, _, _, _, rfl, rfl, (((hb11.setCell (Nat.le_refl _) _).setCell (Nat.le_refl _) _).setCell (Nat.le_refl _) _).setCell (Nat.le_refl _) _, hwsz, by go_simp, by go_simp, by go_simp, by go_simp⟩)
        · clear HVAL HS c0 c1 c2 c3 l0
          rintro e a' V ⟨g, z4, z5, z11, z12, z13, z14, z15, z16, z17, z18, z19, z20, z21, z22, z23, z24, z25, z26, z27, z28, z29, z30, z31, z32, z33, z34, z35, z36, z37, z38, rfl, rfl, hbV, hgg, x0, x1, x2, x3⟩
          have hgV : g < V.heap.size := World.block_lt_of_cell? (w := V) (a := ⟨g, 0, none⟩) x0
          have hXN := HXN.out
          injection hXN with e1 e2
          subst e1 e2
          have HFIN := Lib.hid ((((Bel.refl w).alloc (.cells #[.slice (some ⟨bc, oc, none⟩) cols.length cc, vk, vu] 26)).then_ HO.out.1).then_ hbV)
          clear hv
          go_wp2
          go_ret2
          exact ⟨rfl, HFIN.out⟩
      | some ad =>
        by_cases hmc : cb = m
        · obtain rfl : m = s.length := by omega
          subst hmc
          have hv : rdVal ⟨cn, ct, cz, cnl⟩ (s.drop s.length) = none := by rw [List.drop_length]; rfl
          obtain rfl : R = none := HBAD.out hv
          obtain ⟨X, N, hXN⟩ : ∃ X N, ((noVal, 0) : Val × Nat) = (X, N) := ⟨_, _, rfl⟩
          have HVAL : Hid (∀ V, Bel wr V → Calls Tryz.prog 73 #[.agg #[.string cn, .int .i64 ct, .int .i64 cz, .bool cnl], .slice (some ad) 0 0] V (GivesV X N V)) := fun V h => by
            injection hXN with e1 e2
            subst e1 e2
            exact r4v_nil V cn ct cz cnl (some ad) 0
          have HXN := Lib.hid hXN
          clear HRB hXN
          go_wp2_with fail
          refine wp_meet (Q' := fun e a' V => ∃ (g : Nat) (z4 z5 z11 z12 z13 z14 z15 z16 z17 z18 z19 z20 z21 z22 z23 z24 z25 z26 z27 z28 z29 z30 z31 z32 z33 z34 z35 z36 z37 z38 : Value), e = .normal ∧ a' = { tmps := #[.agg #[.slice (some ⟨bc, oc, none⟩) cols.length cc, vk, vu], .slice (some ad) s.length s.length, .pointer (some ⟨w.heap.size, 0, none⟩), undef, z4, z5, .int .i64 s.length, .slice A k c, .int .i64 k, .pointer (some ⟨g, 0, none⟩), .int .i64 N, z11, z12, z13, z14, z15, z16, z17, z18, z19, z20, z21, z22, z23, z24, z25, z26, z27, z28, z29, z30, z31, z32, z33, z34, z35, z36, z37, z38, undef, undef], defers := [] } ∧ Bel wr V ∧ w.heap.size < g ∧ V.cell? ⟨g, 0, none⟩ = some (.int .i64 X.k) ∧ V.cell? ⟨g, 1, none⟩ = some (.int .i64 X.n) ∧ V.cell? ⟨g, 2, none⟩ = some (.int .u64 X.u) ∧ V.cell? ⟨g, 3, none⟩ = some (.string X.b)) ?_ ?_
          · refine wp_region_noPanic ?_
            refine wp_region_held_drew (S := (fun V : World => Bel wr V ∧ V.cell? ⟨w.heap.size, 0, none⟩ = some (.slice (some ⟨bc, oc, none⟩) cols.length cc) ∧ (V.cell? ⟨bc, oc + k * 4, none⟩ = some (.string cn) ∧ V.cell? ⟨bc, oc + k * 4 + 1, none⟩ = some (.int .i64 ct) ∧ V.cell? ⟨bc, oc + k * 4 + 2, none⟩ = some (.int .i64 cz) ∧ V.cell? ⟨bc, oc + k * 4 + 3, none⟩ = some (.bool cnl)))) (by kernel_rfl) ?_ (fun hHr2_0 => ?_)
            · (try dsimp only); (first | assumption | exact HS.out _ (Bel.refl wr).drew | exact HS.out _ hb11 | exact HS.out _ ((Bel.refl wr).drew.alloc _) | exact HS.out _ (hb11.alloc _) | exact HS.out _ ((((hb11.setCell (Nat.le_refl _) _).setCell (Nat.le_refl _) _).setCell (Nat.le_refl _) _).setCell (Nat.le_refl _) _))
            refine wpAnyH_take (i := 0) (oi := _) (v := ?vr2_1_0) rfl (by kernel_rfl) (by kernel_rfl) (by kernel_rfl) ?hqr2_1_0 (Or.inl ⟨by kernel_rfl, ?hyr2_1_0⟩) (by assumption) ?restr2_1_0
            case hqr2_1_0 => exact fun _ _ _ h => h
            case hyr2_1_0 => (intro w hSw; (try dsimp only at hSw); go_simp; try with_reducible rfl)
            try simp only [Act.put, List.getElem_toArray, List.getElem_cons_succ, List.getElem_cons_zero, List.setIfInBounds_toArray, List.set_cons_zero, List.set_cons_succ]
            refine wpAnyH_take (i := 1) (oi := _) (v := ?vr2_1_1) rfl (by kernel_rfl) (by kernel_rfl) (by kernel_rfl) ?hqr2_1_1 (Or.inl ⟨by kernel_rfl, ?hyr2_1_1⟩) (by assumption) ?restr2_1_1
            case hqr2_1_1 => exact fun _ _ _ h => h
            case hyr2_1_1 => (intro w hSw; (try dsimp only at hSw); go_simp; try with_reducible rfl)
            try simp only [Act.put, List.getElem_toArray, List.getElem_cons_succ, List.getElem_cons_zero, List.setIfInBounds_toArray, List.set_cons_zero, List.set_cons_succ]
            refine wpAnyH_take (i := 2) (oi := _) (v := ?vr2_1_2) rfl (by kernel_rfl) (by kernel_rfl) (by kernel_rfl) ?hqr2_1_2 (Or.inl ⟨by kernel_rfl, ?hyr2_1_2⟩) (by assumption) ?restr2_1_2
            case hqr2_1_2 => exact fun _ _ _ h => h
            case hyr2_1_2 => (intro w hSw; (try dsimp only at hSw); go_simp; try with_reducible rfl)
            try simp only [Act.put, List.getElem_toArray, List.getElem_cons_succ, List.getElem_cons_zero, List.setIfInBounds_toArray, List.set_cons_zero, List.set_cons_succ]
            refine wpAnyH_take (i := 3) (oi := _) (v := ?vr2_1_3) rfl (by kernel_rfl) (by kernel_rfl) (by kernel_rfl) ?hqr2_1_3 (Or.inl ⟨by kernel_rfl, ?hyr2_1_3⟩) (by assumption) ?restr2_1_3
            case hqr2_1_3 => exact fun _ _ _ h => h
            case hyr2_1_3 => (intro w hSw; (try dsimp only at hSw); go_simp; try with_reducible rfl)
            try simp only [Act.put, List.getElem_toArray, List.getElem_cons_succ, List.getElem_cons_zero, List.setIfInBounds_toArray, List.set_cons_zero, List.set_cons_succ]
            refine wpAnyH_take (i := 4) (oi := _) (v := ?vr2_1_4) rfl (by kernel_rfl) (by kernel_rfl) (by kernel_rfl) ?hqr2_1_4 (Or.inl ⟨by kernel_rfl, ?hyr2_1_4⟩) (by assumption) ?restr2_1_4
            case hqr2_1_4 => exact fun _ _ _ h => h
            case hyr2_1_4 => (intro w hSw; (try dsimp only at hSw); go_simp; try with_reducible rfl)
            try simp only [Act.put, List.getElem_toArray, List.getElem_cons_succ, List.getElem_cons_zero, List.setIfInBounds_toArray, List.set_cons_zero, List.set_cons_succ]
            refine wpAnyH_take (i := 5) (oi := _) (v := ?vr2_1_5) rfl (by kernel_rfl) (by kernel_rfl) (by kernel_rfl) ?hqr2_1_5 (Or.inl ⟨by kernel_rfl, ?hyr2_1_5⟩) (by assumption) ?restr2_1_5
            case hqr2_1_5 => exact fun _ _ _ h => h
            case hyr2_1_5 => (intro w hSw; (try dsimp only at hSw); go_simp; try with_reducible rfl)
            try simp only [Act.put, List.getElem_toArray, List.getElem_cons_succ, List.getElem_cons_zero, List.setIfInBounds_toArray, List.set_cons_zero, List.set_cons_succ]
            refine wpAnyH_take (i := 6) (oi := _) (v := ?vr2_1_6) rfl (by kernel_rfl) (by kernel_rfl) (by kernel_rfl) ?hqr2_1_6 (Or.inl ⟨by kernel_rfl, ?hyr2_1_6⟩) (by assumption) ?restr2_1_6
            case hqr2_1_6 => exact fun _ _ _ h => h
            case hyr2_1_6 => (intro w hSw; (try dsimp only at hSw); go_simp; try with_reducible rfl)
            try simp only [Act.put, List.getElem_toArray, List.getElem_cons_succ, List.getElem_cons_zero, List.setIfInBounds_toArray, List.set_cons_zero, List.set_cons_succ]
            refine wpAnyH_take (i := 7) (oi := _) (v := ?vr2_1_7) rfl (by kernel_rfl) (by kernel_rfl) (by kernel_rfl) ?hqr2_1_7 (Or.inl ⟨by kernel_rfl, ?hyr2_1_7⟩) (by assumption) ?restr2_1_7
            case hqr2_1_7 => exact fun _ _ _ h => h
            case hyr2_1_7 => (intro w hSw; (try dsimp only at hSw); go_simp; try with_reducible rfl)
            try simp only [Act.put, List.getElem_toArray, List.getElem_cons_succ, List.getElem_cons_zero, List.setIfInBounds_toArray, List.set_cons_zero, List.set_cons_succ]
            refine wpAnyH_ready (rs := [8, 12]) (by kernel_rfl) (by simp) ?_
            refine AllReadyH.cons (o := _) rfl (fun K hK => ?_) (AllReadyH.cons (o := _) rfl (fun K hK => ?_) (AllReadyH.nil))
            · go_simp
              (go_at_call 73; refine (HVAL.out _ (Bel.refl wr).drew).mono ?_; rintro e w10 ⟨rfl, hb10⟩; have hb11 := (Bel.refl wr).drew.then_ hb10)
              try (go_wp2_with fail)
              refine hK.out _ _ ?_ (fun hHr2_1 => ?_)
              · (try dsimp only); (first | assumption | exact HS.out _ (Bel.refl wr).drew | exact HS.out _ hb11 | exact HS.out _ ((Bel.refl wr).drew.alloc _) | exact HS.out _ (hb11.alloc _) | exact HS.out _ ((((hb11.setCell (Nat.le_refl _) _).setCell (Nat.le_refl _) _).setCell (Nat.le_refl _) _).setCell (Nat.le_refl _) _))
              clear hK K hHr2_0
              try simp only [Act.put, List.getElem_toArray, List.getElem_cons_succ, List.getElem_cons_zero, List.setIfInBounds_toArray, List.set_cons_zero, List.set_cons_succ]
              refine wpAnyH_take (i := 9) (oi := _) (v := ?vr2_2_9) rfl (by kernel_rfl) (by kernel_rfl) (by kernel_rfl) ?hqr2_2_9 (Or.inl ⟨by kernel_rfl, ?hyr2_2_9⟩) (by assumption) ?restr2_2_9
              case hqr2_2_9 => exact fun _ _ _ h => h
              case hyr2_2_9 => (intro w hSw; (try dsimp only at hSw); go_simp; try with_reducible rfl)
              try simp only [Act.put, List.getElem_toArray, List.getElem_cons_succ, List.getElem_cons_zero, List.setIfInBounds_toArray, List.set_cons_zero, List.set_cons_succ]
              refine wpAnyH_take (i := 10) (oi := _) (v := ?vr2_2_10) rfl (by kernel_rfl) (by kernel_rfl) (by kernel_rfl) ?hqr2_2_10 (Or.inl ⟨by kernel_rfl, ?hyr2_2_10⟩) (by assumption) ?restr2_2_10
              case hqr2_2_10 => exact fun _ _ _ h => h
              case hyr2_2_10 => (intro w hSw; (try dsimp only at hSw); go_simp; try with_reducible rfl)
              try simp only [Act.put, List.getElem_toArray, List.getElem_cons_succ, List.getElem_cons_zero, List.setIfInBounds_toArray, List.set_cons_zero, List.set_cons_succ]
              refine wpAnyH_take (i := 11) (oi := _) (v := ?vr2_2_11) rfl (by kernel_rfl) (by kernel_rfl) (by kernel_rfl) ?hqr2_2_11 (Or.inl ⟨by kernel_rfl, ?hyr2_2_11⟩) (by assumption) ?restr2_2_11
              case hqr2_2_11 => exact fun _ _ _ h => h
              case hyr2_2_11 => (intro w hSw; (try dsimp only at hSw); go_simp; try with_reducible rfl)
              try simp only [Act.put, List.getElem_toArray, List.getElem_cons_succ, List.getElem_cons_zero, List.setIfInBounds_toArray, List.set_cons_zero, List.set_cons_succ]
              refine wpAnyH_ready (rs := [12]) (by kernel_rfl) (by simp) ?_
              refine AllReadyH.cons (o := _) rfl (fun K hK => ?_) AllReadyH.nil
              go_simp
              refine hK.out _ _ ?_ (fun hHr2_2 => ?_)
              · (try dsimp only); (first | assumption | exact HS.out _ (Bel.refl wr).drew | exact HS.out _ hb11 | exact HS.out _ ((Bel.refl wr).drew.alloc _) | exact HS.out _ (hb11.alloc _) | exact HS.out _ ((((hb11.setCell (Nat.le_refl _) _).setCell (Nat.le_refl _) _).setCell (Nat.le_refl _) _).setCell (Nat.le_refl _) _))
              clear hK K hHr2_1
              try simp only [Act.put, List.getElem_toArray, List.getElem_cons_succ, List.getElem_cons_zero, List.setIfInBounds_toArray, List.set_cons_zero, List.set_cons_succ]
              refine wpAnyH_ready (rs := [13]) (by kernel_rfl) (by simp) ?_
              refine AllReadyH.cons (o := _) rfl (fun K hK => ?_) AllReadyH.nil
              go_simp
              refine hK.out _ _ ?_ (fun hHr2_3 => ?_)
              · (try dsimp only); (first | assumption | exact HS.out _ (Bel.refl wr).drew | exact HS.out _ hb11 | exact HS.out _ ((Bel.refl wr).drew.alloc _) | exact HS.out _ (hb11.alloc _) | exact HS.out _ ((((hb11.setCell (Nat.le_refl _) _).setCell (Nat.le_refl _) _).setCell (Nat.le_refl _) _).setCell (Nat.le_refl _) _))
              clear hK K hHr2_2
              try simp only [Act.put, List.getElem_toArray, List.getElem_cons_succ, List.getElem_cons_zero, List.setIfInBounds_toArray, List.set_cons_zero, List.set_cons_succ]
              refine wpAnyH_ready (rs := [14]) (by kernel_rfl) (by simp) ?_
              refine AllReadyH.cons (o := _) rfl (fun K hK => ?_) AllReadyH.nil
              go_simp
              refine hK.out _ _ ?_ (fun hHr2_4 => ?_)
              · (try dsimp only); (first | assumption | exact HS.out _ (Bel.refl wr).drew | exact HS.out _ hb11 | exact HS.out _ ((Bel.refl wr).drew.alloc _) | exact HS.out _ (hb11.alloc _) | exact HS.out _ ((((hb11.setCell (Nat.le_refl _) _).setCell (Nat.le_refl _) _).setCell (Nat.le_refl _) _).setCell (Nat.le_refl _) _))
              clear hK K hHr2_3
              try simp only [Act.put, List.getElem_toArray, List.getElem_cons_succ, List.getElem_cons_zero, List.setIfInBounds_toArray, List.set_cons_zero, List.set_cons_succ]
              refine wpAnyH_done (by kernel_rfl) ?_ _
              refine NoPanic.normal ?_
              (exact ⟨_, _, _, _, _, _, _, _, _, _, _, _, _, _, _, _, _, _, _, _, _, _, _, _, _, _, _, _, _, _, _, rfl, rfl, hb11.alloc _, Nat.lt_of_lt_of_le hwsz hb11.size, by go_simp, by go_simp, by go_simp, by go_simp⟩)
            · go_simp
              refine hK.out _ _ ?_ (fun hHr2_1 => ?_)
              · (try dsimp only); (first | assumption | exact HS.out _ (Bel.refl wr).drew | exact HS.out _ hb11 | exact HS.out _ ((Bel.refl wr).drew.alloc _) | exact HS.out _ (hb11.alloc _) | exact HS.out _ ((((hb11.setCell (Nat.le_refl _) _).setCell (Nat.le_refl _) _).setCell (Nat.le_refl _) _).setCell (Nat.le_refl _) _))
              clear hK K hHr2_0
              try simp only [Act.put, List.getElem_toArray, List.getElem_cons_succ, List.getElem_cons_zero, List.setIfInBounds_toArray, List.set_cons_zero, List.set_cons_succ]
              refine wpAnyH_ready (rs := [8]) (by kernel_rfl) (by simp) ?_
              refine AllReadyH.cons (o := _) rfl (fun K hK => ?_) AllReadyH.nil
              go_simp
              (go_at_call 73; refine (HVAL.out _ ((Bel.refl wr).drew.alloc _)).mono ?_; rintro e w10 ⟨rfl, hb10⟩; have hb11 := ((Bel.refl wr).drew.alloc _).then_ hb10; have y0 := hb10.c (p := ⟨wr.heap.size, 0, none⟩) (v := .int .i64 0) (by go_simp); have y1 := hb10.c (p := ⟨wr.heap.size, 1, none⟩) (v := .int .i64 0) (by go_simp); have y2 := hb10.c (p := ⟨wr.heap.size, 2, none⟩) (v := .int .u64 0) (by go_simp); have y3 := hb10.c (p := ⟨wr.heap.size, 3, none⟩) (v := .string ⟨#[]⟩) (by go_simp); have x0 := hb10.f (p := ⟨wr.heap.size, 0, none⟩) (v := .int .i64 0) (by go_simp) (by go_simp); have x1 := hb10.f (p := ⟨wr.heap.size, 1, none⟩) (v := .int .i64 0) (by go_simp) (by go_simp); have x2 := hb10.f (p := ⟨wr.heap.size, 2, none⟩) (v := .int .u64 0) (by go_simp) (by go_simp); have x3 := hb10.f (p := ⟨wr.heap.size, 3, none⟩) (v := .string ⟨#[]⟩) (by go_simp) (by go_simp))
              try (go_wp2_with fail)
              refine hK.out _ _ ?_ (fun hHr2_2 => ?_)
              · (try dsimp only); (first | assumption | exact HS.out _ (Bel.refl wr).drew | exact HS.out _ hb11 | exact HS.out _ ((Bel.refl wr).drew.alloc _) | exact HS.out _ (hb11.alloc _) | exact HS.out _ ((((hb11.setCell (Nat.le_refl _) _).setCell (Nat.le_refl _) _).setCell (Nat.le_refl _) _).setCell (Nat.le_refl _) _))
              clear hK K hHr2_1
              try simp only [Act.put, List.getElem_toArray, List.getElem_cons_succ, List.getElem_cons_zero, List.setIfInBounds_toArray, List.set_cons_zero, List.set_cons_succ]
              refine wpAnyH_take (i := 9) (oi := _) (v := ?vr2_3_9) rfl (by kernel_rfl) (by kernel_rfl) (by kernel_rfl) ?hqr2_3_9 (Or.inl ⟨by kernel_rfl, ?hyr2_3_9⟩) (by assumption) ?restr2_3_9
              case hqr2_3_9 => exact fun _ _ _ h => h
              case hyr2_3_9 => (intro w hSw; (try dsimp only at hSw); go_simp; try with_reducible rfl)
              try simp only [Act.put, List.getElem_toArray, List.getElem_cons_succ, List.getElem_cons_zero, List.setIfInBounds_toArray, List.set_cons_zero, List.set_cons_succ]
              refine wpAnyH_take (i := 10) (oi := _) (v := ?vr2_3_10) rfl (by kernel_rfl) (by kernel_rfl) (by kernel_rfl) ?hqr2_3_10 (Or.inl ⟨by kernel_rfl, ?hyr2_3_10⟩) (by assumption) ?restr2_3_10
              case hqr2_3_10 => exact fun _ _ _ h => h
              case hyr2_3_10 => (intro w hSw; (try dsimp only at hSw); go_simp; try with_reducible rfl)
              try simp only [Act.put, List.getElem_toArray, List.getElem_cons_succ, List.getElem_cons_zero, List.setIfInBounds_toArray, List.set_cons_zero, List.set_cons_succ]
              refine wpAnyH_take (i := 11) (oi := _) (v := ?vr2_3_11) rfl (by kernel_rfl) (by kernel_rfl) (by kernel_rfl) ?hqr2_3_11 (Or.inl ⟨by kernel_rfl, ?hyr2_3_11⟩) (by assumption) ?restr2_3_11
              case hqr2_3_11 => exact fun _ _ _ h => h
              case hyr2_3_11 => (intro w hSw; (try dsimp only at hSw); go_simp; try with_reducible rfl)
              try simp only [Act.put, List.getElem_toArray, List.getElem_cons_succ, List.getElem_cons_zero, List.setIfInBounds_toArray, List.set_cons_zero, List.set_cons_succ]
              refine wpAnyH_ready (rs := [13]) (by kernel_rfl) (by simp) ?_
              refine AllReadyH.cons (o := _) rfl (fun K hK => ?_) AllReadyH.nil
              go_simp
              refine hK.out _ _ ?_ (fun hHr2_3 => ?_)
              · (try dsimp only); (first | assumption | exact HS.out _ (Bel.refl wr).drew | exact HS.out _ hb11 | exact HS.out _ ((Bel.refl wr).drew.alloc _) | exact HS.out _ (hb11.alloc _) | exact HS.out _ ((((hb11.setCell (Nat.le_refl _) _).setCell (Nat.le_refl _) _).setCell (Nat.le_refl _) _).setCell (Nat.le_refl _) _))
              clear hK K hHr2_2
              try simp only [Act.put, List.getElem_toArray, List.getElem_cons_succ, List.getElem_cons_zero, List.setIfInBounds_toArray, List.set_cons_zero, List.set_cons_succ]
              refine wpAnyH_ready (rs := [14]) (by kernel_rfl) (by simp) ?_
              refine AllReadyH.cons (o := _) rfl (fun K hK => ?_) AllReadyH.nil
              go_simp
              refine hK.out _ _ ?_ (fun hHr2_4 => ?_)
              · (try dsimp only); (first | assumption | exact HS.out _ (Bel.refl wr).drew | exact HS.out _ hb11 | exact HS.out _ ((Bel.refl wr).drew.alloc _) | exact HS.out _ (hb11.alloc _) | exact HS.out _ ((((hb11.setCell (Nat.le_refl _) _).setCell (Nat.le_refl _) _).setCell (Nat.le_refl _) _).setCell (Nat.le_refl _) _))
              clear hK K hHr2_3
              try simp only [Act.put, List.getElem_toArray, List.getElem_cons_succ, List.getElem_cons_zero, List.setIfInBounds_toArray, List.set_cons_zero, List.set_cons_succ]
              refine wpAnyH_done (by kernel_rfl) ?_ _
              refine NoPanic.normal ?_
              (exact ⟨_, _, _, _, _, _, _, _, _, _, _, _, _, _, _, _, _, _, _, _, _, _, _, _, _, _, _, _, _, _, _, rfl, rfl, (((hb11.setCell (Nat.le_refl _) _).setCell (Nat.le_refl _) _).setCell (Nat.le_refl _) _).setCell (Nat.le_refl _) _, hwsz, by go_simp, by go_simp, by go_simp, by go_simp⟩)
          · clear HVAL HS c0 c1 c2 c3 l0
            rintro e a' V ⟨g, z4, z5, z11, z12, z13, z14, z15, z16, z17, z18, z19, z20, z21, z22, z23, z24, z25, z26, z27, z28, z29, z30, z31, z32, z33, z34, z35, z36, z37, z38, rfl, rfl, hbV, hgg, x0, x1, x2, x3⟩
            have hgV : g < V.heap.size := World.block_lt_of_cell? (w := V) (a := ⟨g, 0, none⟩) x0
            have hXN := HXN.out
            injection hXN with e1 e2
            subst e1 e2
            have HFIN := Lib.hid ((((Bel.refl w).alloc (.cells #[.slice (some ⟨bc, oc, none⟩) cols.length cc, vk, vu] 26)).then_ HO.out.1).then_ hbV)
            clear hv
            go_wp2
            go_ret2
            exact ⟨rfl, HFIN.out⟩
        · have hcut := HRB.out.cut (k := m) hml HBM.out.1
          rw [Nat.mul_one, ← List.map_drop, if_neg hmc, ← hdl] at hcut
          obtain ⟨X, N, hXN⟩ : ∃ X N, valR (rdVal ⟨cn, ct, cz, cnl⟩ (s.drop m)) = (X, N) := ⟨_, _, rfl⟩
          have HVAL : Hid (∀ V, Bel wr V → Calls Tryz.prog 73 #[.agg #[.string cn, .int .i64 ct, .int .i64 cz, .bool cnl], .slice (some (ad.add m)) (s.length - m) (cb - m)] V (GivesV X N V)) := fun V h => by
            have hbV : BsAt V (.slice (some (ad.add m)) (s.length - m) (cb - m)) (s.drop m) := by
              rw [← hdl]
              refine ⟨_, _, rfl, by have := HBM.out.1; omega, by have := HBM.out.2; omega, hcut.belH ((((Bel.refl w).alloc _).then_ HO.out.1).then_ h)⟩
            have := r4value_any ⟨cn, ct, cz, cnl⟩ hrco _ (s.drop m) (by omega) V hbV
            rw [hXN] at this
            exact this
          clear hcut
          have HXN := Lib.hid hXN
          clear HRB hXN
          go_wp2_with fail
          refine wp_meet (Q' := fun e a' V => ∃ (g : Nat) (z4 z5 z11 z12 z13 z14 z15 z16 z17 z18 z19 z20 z21 z22 z23 z24 z25 z26 z27 z28 z29 z30 z31 z32 z33 z34 z35 z36 z37 z38 : Value), e = .normal ∧ a' = { tmps := #[.agg #[.slice (some ⟨bc, oc, none⟩) cols.length cc, vk, vu], .slice (some ad) s.length cb, .pointer (some ⟨w.heap.size, 0, none⟩), undef, z4, z5, .int .i64 m, .slice A k c, .int .i64 k, .pointer (some ⟨g, 0, none⟩), .int .i64 N, z11, z12, z13, z14, z15, z16, z17, z18, z19, z20, z21, z22, z23, z24, z25, z26, z27, z28, z29, z30, z31, z32, z33, z34, z35, z36, z37, z38, undef, undef], defers := [] } ∧ Bel wr V ∧ w.heap.size < g ∧ V.cell? ⟨g, 0, none⟩ = some (.int .i64 X.k) ∧ V.cell? ⟨g, 1, none⟩ = some (.int .i64 X.n) ∧ V.cell? ⟨g, 2, none⟩ = some (.int .u64 X.u) ∧ V.cell? ⟨g, 3, none⟩ = some (.string X.b)) ?_ ?_
          · refine wp_region_noPanic ?_
            refine wp_region_held_drew (S := (fun V : World => Bel wr V ∧ V.cell? ⟨w.heap.size, 0, none⟩ = some (.slice (some ⟨bc, oc, none⟩) cols.length cc) ∧ (V.cell? ⟨bc, oc + k * 4, none⟩ = some (.string cn) ∧ V.cell? ⟨bc, oc + k * 4 + 1, none⟩ = some (.int .i64 ct) ∧ V.cell? ⟨bc, oc + k * 4 + 2, none⟩ = some (.int .i64 cz) ∧ V.cell? ⟨bc, oc + k * 4 + 3, none⟩ = some (.bool cnl)))) (by kernel_rfl) ?_ (fun hHr3_0 => ?_)
            · (try dsimp only); (first | assumption | exact HS.out _ (Bel.refl wr).drew | exact HS.out _ hb11 | exact HS.out _ ((Bel.refl wr).drew.alloc _) | exact HS.out _ (hb11.alloc _) | exact HS.out _ ((((hb11.setCell (Nat.le_refl _) _).setCell (Nat.le_refl _) _).setCell (Nat.le_refl _) _).setCell (Nat.le_refl _) _))
            refine wpAnyH_take (i := 0) (oi := _) (v := ?vr3_1_0) rfl (by kernel_rfl) (by kernel_rfl) (by kernel_rfl) ?hqr3_1_0 (Or.inl ⟨by kernel_rfl, ?hyr3_1_0⟩) (by assumption) ?restr3_1_0
            case hqr3_1_0 => exact fun _ _ _ h => h
            case hyr3_1_0 => (intro w hSw; (try dsimp only at hSw); go_simp; try with_reducible rfl)
            try simp only [Act.put, List.getElem_toArray, List.getElem_cons_succ, List.getElem_cons_zero, List.setIfInBounds_toArray, List.set_cons_zero, List.set_cons_succ]
            refine wpAnyH_take (i := 1) (oi := _) (v := ?vr3_1_1) rfl (by kernel_rfl) (by kernel_rfl) (by kernel_rfl) ?hqr3_1_1 (Or.inl ⟨by kernel_rfl, ?hyr3_1_1⟩) (by assumption) ?restr3_1_1
            case hqr3_1_1 => exact fun _ _ _ h => h
            case hyr3_1_1 => (intro w hSw; (try dsimp only at hSw); go_simp; try with_reducible rfl)
            try simp only [Act.put, List.getElem_toArray, List.getElem_cons_succ, List.getElem_cons_zero, List.setIfInBounds_toArray, List.set_cons_zero, List.set_cons_succ]
            refine wpAnyH_take (i := 2) (oi := _) (v := ?vr3_1_2) rfl (by kernel_rfl) (by kernel_rfl) (by kernel_rfl) ?hqr3_1_2 (Or.inl ⟨by kernel_rfl, ?hyr3_1_2⟩) (by assumption) ?restr3_1_2
            case hqr3_1_2 => exact fun _ _ _ h => h
            case hyr3_1_2 => (intro w hSw; (try dsimp only at hSw); go_simp; try with_reducible rfl)
            try simp only [Act.put, List.getElem_toArray, List.getElem_cons_succ, List.getElem_cons_zero, List.setIfInBounds_toArray, List.set_cons_zero, List.set_cons_succ]
            refine wpAnyH_take (i := 3) (oi := _) (v := ?vr3_1_3) rfl (by kernel_rfl) (by kernel_rfl) (by kernel_rfl) ?hqr3_1_3 (Or.inl ⟨by kernel_rfl, ?hyr3_1_3⟩) (by assumption) ?restr3_1_3
            case hqr3_1_3 => exact fun _ _ _ h => h
            case hyr3_1_3 => (intro w hSw; (try dsimp only at hSw); go_simp; try with_reducible rfl)
            try simp only [Act.put, List.getElem_toArray, List.getElem_cons_succ, List.getElem_cons_zero, List.setIfInBounds_toArray, List.set_cons_zero, List.set_cons_succ]
            refine wpAnyH_take (i := 4) (oi := _) (v := ?vr3_1_4) rfl (by kernel_rfl) (by kernel_rfl) (by kernel_rfl) ?hqr3_1_4 (Or.inl ⟨by kernel_rfl, ?hyr3_1_4⟩) (by assumption) ?restr3_1_4
            case hqr3_1_4 => exact fun _ _ _ h => h
            case hyr3_1_4 => (intro w hSw; (try dsimp only at hSw); go_simp; try with_reducible rfl)
            try simp only [Act.put, List.getElem_toArray, List.getElem_cons_succ, List.getElem_cons_zero, List.setIfInBounds_toArray, List.set_cons_zero, List.set_cons_succ]
            refine wpAnyH_take (i := 5) (oi := _) (v := ?vr3_1_5) rfl (by kernel_rfl) (by kernel_rfl) (by kernel_rfl) ?hqr3_1_5 (Or.inl ⟨by kernel_rfl, ?hyr3_1_5⟩) (by assumption) ?restr3_1_5
            case hqr3_1_5 => exact fun _ _ _ h => h
            case hyr3_1_5 => (intro w hSw; (try dsimp only at hSw); go_simp; try with_reducible rfl)
            try simp only [Act.put, List.getElem_toArray, List.getElem_cons_succ, List.getElem_cons_zero, List.setIfInBounds_toArray, List.set_cons_zero, List.set_cons_succ]
            refine wpAnyH_take (i := 6) (oi := _) (v := ?vr3_1_6) rfl (by kernel_rfl) (by kernel_rfl) (by kernel_rfl) ?hqr3_1_6 (Or.inl ⟨by kernel_rfl, ?hyr3_1_6⟩) (by assumption) ?restr3_1_6
            case hqr3_1_6 => exact fun _ _ _ h => h
            case hyr3_1_6 => (intro w hSw; (try dsimp only at hSw); go_simp; try with_reducible rfl)
            try simp only [Act.put, List.getElem_toArray, List.getElem_cons_succ, List.getElem_cons_zero, List.setIfInBounds_toArray, List.set_cons_zero, List.set_cons_succ]
            refine wpAnyH_take (i := 7) (oi := _) (v := ?vr3_1_7) rfl (by kernel_rfl) (by kernel_rfl) (by kernel_rfl) ?hqr3_1_7 (Or.inl ⟨by kernel_rfl, ?hyr3_1_7⟩) (by assumption) ?restr3_1_7
            case hqr3_1_7 => exact fun _ _ _ h => h
            case hyr3_1_7 => (intro w hSw; (try dsimp only at hSw); go_simp; try with_reducible rfl)
            try simp only [Act.put, List.getElem_toArray, List.getElem_cons_succ, List.getElem_cons_zero, List.setIfInBounds_toArray, List.set_cons_zero, List.set_cons_succ]
            refine wpAnyH_ready (rs := [8, 12]) (by kernel_rfl) (by simp) ?_
            refine AllReadyH.cons (o := _) rfl (fun K hK => ?_) (AllReadyH.cons (o := _) rfl (fun K hK => ?_) (AllReadyH.nil))
            · go_simp
              (go_at_call 73; refine (HVAL.out _ (Bel.refl wr).drew).mono ?_; rintro e w10 ⟨rfl, hb10⟩; have hb11 := (Bel.refl wr).drew.then_ hb10)
              try (go_wp2_with fail)
              refine hK.out _ _ ?_ (fun hHr3_1 => ?_)
              · (try dsimp only); (first | assumption | exact HS.out _ (Bel.refl wr).drew | exact HS.out _ hb11 | exact HS.out _ ((Bel.refl wr).drew.alloc _) | exact HS.out _ (hb11.alloc _) | exact HS.out _ ((((hb11.setCell (Nat.le_refl _) _).setCell (Nat.le_refl _) _).setCell (Nat.le_refl _) _).setCell (Nat.le_refl _) _))
              clear hK K hHr3_0
              try simp only [Act.put, List.getElem_toArray, List.getElem_cons_succ, List.getElem_cons_zero, List.setIfInBounds_toArray, List.set_cons_zero, List.set_cons_succ]
              refine wpAnyH_take (i := 9) (oi := _) (v := ?vr3_2_9) rfl (by kernel_rfl) (by kernel_rfl) (by kernel_rfl) ?hqr3_2_9 (Or.inl ⟨by kernel_rfl, ?hyr3_2_9⟩) (by assumption) ?restr3_2_9
              case hqr3_2_9 => exact fun _ _ _ h => h
              case hyr3_2_9 => (intro w hSw; (try dsimp only at hSw); go_simp; try with_reducible rfl)
              try simp only [Act.put, List.getElem_toArray, List.getElem_cons_succ, List.getElem_cons_zero, List.setIfInBounds_toArray, List.set_cons_zero, List.set_cons_succ]
              refine wpAnyH_take (i := 10) (oi := _) (v := ?vr3_2_10) rfl (by kernel_rfl) (by kernel_rfl) (by kernel_rfl) ?hqr3_2_10 (Or.inl ⟨by kernel_rfl, ?hyr3_2_10⟩) (by assumption) ?restr3_2_10
              case hqr3_2_10 => exact fun _ _ _ h => h
              case hyr3_2_10 => (intro w hSw; (try dsimp only at hSw); go_simp; try with_reducible rfl)
              try simp only [Act.put, List.getElem_toArray, List.getElem_cons_succ, List.getElem_cons_zero, List.setIfInBounds_toArray, List.set_cons_zero, List.set_cons_succ]
              refine wpAnyH_take (i := 11) (oi := _) (v := ?vr3_2_11) rfl (by kernel_rfl) (by kernel_rfl) (by kernel_rfl) ?hqr3_2_11 (Or.inl ⟨by kernel_rfl, ?hyr3_2_11⟩) (by assumption) ?restr3_2_11
              case hqr3_2_11 => exact fun _ _ _ h => h
              case hyr3_2_11 => (intro w hSw; (try dsimp only at hSw); go_simp; try with_reducible rfl)
              try simp only [Act.put, List.getElem_toArray, List.getElem_cons_succ, List.getElem_cons_zero, List.setIfInBounds_toArray, List.set_cons_zero, List.set_cons_succ]
              refine wpAnyH_ready (rs := [12]) (by kernel_rfl) (by simp) ?_
              refine AllReadyH.cons (o := _) rfl (fun K hK => ?_) AllReadyH.nil
              go_simp
              refine hK.out _ _ ?_ (fun hHr3_2 => ?_)
              · (try dsimp only); (first | assumption | exact HS.out _ (Bel.refl wr).drew | exact HS.out _ hb11 | exact HS.out _ ((Bel.refl wr).drew.alloc _) | exact HS.out _ (hb11.alloc _) | exact HS.out _ ((((hb11.setCell (Nat.le_refl _) _).setCell (Nat.le_refl _) _).setCell (Nat.le_refl _) _).setCell (Nat.le_refl _) _))
              clear hK K hHr3_1
              try simp only [Act.put, List.getElem_toArray, List.getElem_cons_succ, List.getElem_cons_zero, List.setIfInBounds_toArray, List.set_cons_zero, List.set_cons_succ]
              refine wpAnyH_ready (rs := [13]) (by kernel_rfl) (by simp) ?_
              refine AllReadyH.cons (o := _) rfl (fun K hK => ?_) AllReadyH.nil
              go_simp
              refine hK.out _ _ ?_ (fun hHr3_3 => ?_)
              · (try dsimp only); (first | assumption | exact HS.out _ (Bel.refl wr).drew | exact HS.out _ hb11 | exact HS.out _ ((Bel.refl wr).drew.alloc _) | exact HS.out _ (hb11.alloc _) | exact HS.out _ ((((hb11.setCell (Nat.le_refl _) _).setCell (Nat.le_refl _) _).setCell (Nat.le_refl _) _).setCell (Nat.le_refl _) _))
              clear hK K hHr3_2
              try simp only [Act.put, List.getElem_toArray, List.getElem_cons_succ, List.getElem_cons_zero, List.setIfInBounds_toArray, List.set_cons_zero, List.set_cons_succ]
              refine wpAnyH_ready (rs := [14]) (by kernel_rfl) (by simp) ?_
              refine AllReadyH.cons (o := _) rfl (fun K hK => ?_) AllReadyH.nil
              go_simp
              refine hK.out _ _ ?_ (fun hHr3_4 => ?_)
              · (try dsimp only); (first | assumption | exact HS.out _ (Bel.refl wr).drew | exact HS.out _ hb11 | exact HS.out _ ((Bel.refl wr).drew.alloc _) | exact HS.out _ (hb11.alloc _) | exact HS.out _ ((((hb11.setCell (Nat.le_refl _) _).setCell (Nat.le_refl _) _).setCell (Nat.le_refl _) _).setCell (Nat.le_refl _) _))
              clear hK K hHr3_3
              try simp only [Act.put, List.getElem_toArray, List.getElem_cons_succ, List.getElem_cons_zero, List.setIfInBounds_toArray, List.set_cons_zero, List.set_cons_succ]
              refine wpAnyH_done (by kernel_rfl) ?_ _
              refine NoPanic.normal ?_
              (exact ⟨_, _, _, _, _, _, _, _, _, _, _, _, _, _, _, _, _, _, _, _, _, _, _, _, _, _, _, _, _, _, _, rfl, rfl, hb11.alloc _, Nat.lt_of_lt_of_le hwsz hb11.size, by go_simp, by go_simp, by go_simp, by go_simp⟩)
            · go_simp
              refine hK.out _ _ ?_ (fun hHr3_1 => ?_)
              · (try dsimp only); (first | assumption | exact HS.out _ (Bel.refl wr).drew | exact HS.out _ hb11 | exact HS.out _ ((Bel.refl wr).drew.alloc _) | exact HS.out _ (hb11.alloc _) | exact HS.out _ ((((hb11.setCell (Nat.le_refl _) _).setCell (Nat.le_refl _) _).setCell (Nat.le_refl _) _).setCell (Nat.le_refl _) _))
              clear hK K hHr3_0
              try simp only [Act.put, List.getElem_toArray, List.getElem_cons_succ, List.getElem_cons_zero, List.setIfInBounds_toArray, List.set_cons_zero, List.set_cons_succ]
              refine wpAnyH_ready (rs := [8]) (by kernel_rfl) (by simp) ?_
              refine AllReadyH.cons (o := _) rfl (fun K hK => ?_) AllReadyH.nil
              go_simp
              (go_at_call 73; refine (HVAL.out _ ((Bel.refl wr).drew.alloc _)).mono ?_; rintro e w10 ⟨rfl, hb10⟩; have hb11 := ((Bel.refl wr).drew.alloc _).then_ hb10; have y0 := hb10.c (p := ⟨wr.heap.size, 0, none⟩) (v := .int .i64 0) (by go_simp); have y1 := hb10.c (p := ⟨wr.heap.size, 1, none⟩) (v := .int .i64 0) (by go_simp); have y2 := hb10.c (p := ⟨wr.heap.size, 2, none⟩) (v := .int .u64 0) (by go_simp); have y3 := hb10.c (p := ⟨wr.heap.size, 3, none⟩) (v := .string ⟨#[]⟩) (by go_simp); have x0 := hb10.f (p := ⟨wr.heap.size, 0, none⟩) (v := .int .i64 0) (by go_simp) (by go_simp); have x1 := hb10.f (p := ⟨wr.heap.size, 1, none⟩) (v := .int .i64 0) (by go_simp) (by go_simp); have x2 := hb10.f (p := ⟨wr.heap.size, 2, none⟩) (v := .int .u64 0) (by go_simp) (by go_simp); have x3 := hb10.f (p := ⟨wr.heap.size, 3, none⟩) (v := .string ⟨#[]⟩) (by go_simp) (by go_simp))
              try (go_wp2_with fail)
              refine hK.out _ _ ?_ (fun hHr3_2 => ?_)
              · (try dsimp only); (first | assumption | exact HS.out _ (Bel.refl wr).drew | exact HS.out _ hb11 | exact HS.out _ ((Bel.refl wr).drew.alloc _) | exact HS.out _ (hb11.alloc _) | exact HS.out _ ((((hb11.setCell (Nat.le_refl _) _).setCell (Nat.le_refl _) _).setCell (Nat.le_refl _) _).setCell (Nat.le_refl _) _))
              clear hK K hHr3_1
              try simp only [Act.put, List.getElem_toArray, List.getElem_cons_succ, List.getElem_cons_zero, List.setIfInBounds_toArray, List.set_cons_zero, List.set_cons_succ]
              refine wpAnyH_take (i := 9) (oi := _) (v := ?vr3_3_9) rfl (by kernel_rfl) (by kernel_rfl) (by kernel_rfl) ?hqr3_3_9 (Or.inl ⟨by kernel_rfl, ?hyr3_3_9⟩) (by assumption) ?restr3_3_9
              case hqr3_3_9 => exact fun _ _ _ h => h
              case hyr3_3_9 => (intro w hSw; (try dsimp only at hSw); go_simp; try with_reducible rfl)
              try simp only [Act.put, List.getElem_toArray, List.getElem_cons_succ, List.getElem_cons_zero, List.setIfInBounds_toArray, List.set_cons_zero, List.set_cons_succ]
              refine wpAnyH_take (i := 10) (oi := _) (v := ?vr3_3_10) rfl (by kernel_rfl) (by kernel_rfl) (by kernel_rfl) ?hqr3_3_10 (Or.inl ⟨by kernel_rfl, ?hyr3_3_10⟩) (by assumption) ?restr3_3_10
              case hqr3_3_10 => exact fun _ _ _ h => h
              case hyr3_3_10 => (intro w hSw; (try dsimp only at hSw); go_simp; try with_reducible rfl)
              try simp only [Act.put, List.getElem_toArray, List.getElem_cons_succ, List.getElem_cons_zero, List.setIfInBounds_toArray, List.set_cons_zero, List.set_cons_succ]
              refine wpAnyH_take (i := 11) (oi := _) (v := ?vr3_3_11) rfl (by kernel_rfl) (by kernel_rfl) (by kernel_rfl) ?hqr3_3_11 (Or.inl ⟨by kernel_rfl, ?hyr3_3_11⟩) (by assumption) ?restr3_3_11
              case hqr3_3_11 => exact fun _ _ _ h => h
              case hyr3_3_11 => (intro w hSw; (try dsimp only at hSw); go_simp; try with_reducible rfl)
              try simp only [Act.put, List.getElem_toArray, List.getElem_cons_succ, List.getElem_cons_zero, List.setIfInBounds_toArray, List.set_cons_zero, List.set_cons_succ]
              refine wpAnyH_ready (rs := [13]) (by kernel_rfl) (by simp) ?_
              refine AllReadyH.cons (o := _) rfl (fun K hK => ?_) AllReadyH.nil
              go_simp
              refine hK.out _ _ ?_ (fun hHr3_3 => ?_)
              · (try dsimp only); (first | assumption | exact HS.out _ (Bel.refl wr).drew | exact HS.out _ hb11 | exact HS.out _ ((Bel.refl wr).drew.alloc _) | exact HS.out _ (hb11.alloc _) | exact HS.out _ ((((hb11.setCell (Nat.le_refl _) _).setCell (Nat.le_refl _) _).setCell (Nat.le_refl _) _).setCell (Nat.le_refl _) _))
              clear hK K hHr3_2
              try simp only [Act.put, List.getElem_toArray, List.getElem_cons_succ, List.getElem_cons_zero, List.setIfInBounds_toArray, List.set_cons_zero, List.set_cons_succ]
              refine wpAnyH_ready (rs := [14]) (by kernel_rfl) (by simp) ?_
              refine AllReadyH.cons (o := _) rfl (fun K hK => ?_) AllReadyH.nil
              go_simp
              refine hK.out _ _ ?_ (fun hHr3_4 => ?_)
              · (try dsimp only); (first | assumption | exact HS.out _ (Bel.refl wr).drew | exact HS.out _ hb11 | exact HS.out _ ((Bel.refl wr).drew.alloc _) | exact HS.out _ (hb11.alloc _) | exact HS.out _ ((((hb11.setCell (Nat.le_refl _) _).setCell (Nat.le_refl _) _).setCell (Nat.le_refl _) _).setCell (Nat.le_refl _) _))
              clear hK K hHr3_3
              try simp only [Act.put, List.getElem_toArray, List.getElem_cons_succ, List.getElem_cons_zero, List.setIfInBounds_toArray, List.set_cons_zero, List.set_cons_succ]
              refine wpAnyH_done (by kernel_rfl) ?_ _
              refine NoPanic.normal ?_
              (exact ⟨_, _, _, _, _, _, _, _, _, _, _, _, _, _, _, _, _, _, _, _, _, _, _, _, _, _, _, _, _, _, _, rfl, rfl, (((hb11.setCell (Nat.le_refl _) _).setCell (Nat.le_refl _) _).setCell (Nat.le_refl _) _).setCell (Nat.le_refl _) _, hwsz, by go_simp, by go_simp, by go_simp, by go_simp⟩)
          · clear HVAL HS c0 c1 c2 c3 l0
            rintro e a' V ⟨g, z4, z5, z11, z12, z13, z14, z15, z16, z17, z18, z19, z20, z21, z22, z23, z24, z25, z26, z27, z28, z29, z30, z31, z32, z33, z34, z35, z36, z37, z38, rfl, rfl, hbV, hgg, x0, x1, x2, x3⟩
            have hgV : g < V.heap.size := World.block_lt_of_cell? (w := V) (a := ⟨g, 0, none⟩) x0
            cases hv : rdVal ⟨cn, ct, cz, cnl⟩ (s.drop m) with
            | none =>
              have hXN := HXN.out
              rw [hv] at hXN
              have hXN : (noVal, 0) = (X, N) := hXN
              injection hXN with e1 e2
              subst e1 e2
              obtain rfl : R = none := HBAD.out hv
              have HFIN := Lib.hid ((((Bel.refl w).alloc (.cells #[.slice (some ⟨bc, oc, none⟩) cols.length cc, vk, vu] 26)).then_ HO.out.1).then_ hbV)
              clear hv
              go_wp2
              go_ret2
              exact ⟨rfl, HFIN.out⟩
            | some p =>
              obtain ⟨x, n⟩ := p
              have hXN := HXN.out
              rw [hv] at hXN
              have hXN : (x, n) = (X, N) := hXN
              injection hXN with e1 e2
              subst e1 e2
              obtain ⟨hn1, hn2⟩ := HBK.out x n hv
              have HNX : Hid (rdRow (cols.take (k + 1)) s = some (L ++ [x], m + n) ∧ (L ++ [x]).length = k + 1) := by
                refine ⟨?_, by rw [List.length_append, HL.out.2]; rfl⟩
                rw [HTK.out, hv]
              have hn0 : ((n : Int) == 0) = false := by rw [beq_eq_false_iff_ne]; omega
              have hnm : m + n ≤ s.length := by omega
              have hwr : IntKind.i64.wrap ((m : Int) + n) = ((m + n : Nat) : Int) := by
                simp only [IntKind.wrap, IntKind.bits, IntKind.signed]
                simp
                omega
              have hal : Bel V (V.alloc (.cells #[.int .i64 x.k, .int .i64 x.n, .int .u64 x.u, .string x.b] 48)) := (Bel.refl _).alloc _
              have HOW := Lib.hid (ownsRow_bel (ownsRow_bel HO.out.2 hbV) hal)
              have HX1 : Hid (Reads (V.alloc (.cells #[.int .i64 x.k, .int .i64 x.n, .int .u64 x.u, .string x.b] 48)) (V.heap.size + 1) 4 (some ⟨V.heap.size, 0, none⟩) 1 [.int .i64 x.k, .int .i64 x.n, .int .u64 x.u, .string x.b]) := reads4 _ _ _ _ _ _
              have HBA := Lib.hid ((HO.out.1.then_ hbV).then_ hal)
              have HS1 : Hid (w.heap.size + 1 ≤ (V.alloc (.cells #[.int .i64 x.k, .int .i64 x.n, .int .u64 x.u, .string x.b] 48)).heap.size) := by show _ ≤ _; simp; omega
              have hon : ∀ u ∈ ([.int .i64 x.k, .int .i64 x.n, .int .u64 x.u, .string x.b] : List Value), u.oneCell' = true := fun u hu => by
                simp at hu
                rcases hu with rfl | rfl | rfl | rfl <;> rfl
              have HVA : Hid (vrows (L ++ [x]) = vrows L ++ [.int .i64 x.k, .int .i64 x.n, .int .u64 x.u, .string x.b]) := vrows_append _ _
              have h63 : k + 1 ≤ maxLen := by unfold maxLen; omega
              have hby : (k + 1) * 40 ≤ 140737488355328 := by omega
              have HNM := Lib.hid hnm
              clear hal hv hn1 hn2 hbV hnm
              go_wp2_with (at_builtin; refine wpList_append_any _ rfl (.tmp 32) (.tmp 34) _ rfl (w.heap.size + 1) 48 i0 _ 4 40 Tryz.underlying27 hi0 hz0 hz1 hz2 rfl hp2 (.slice A k c) k (vrows L) (by rfl) HOW.out _ (some ⟨V.heap.size, 0, none⟩) 1 1 [.int .i64 x.k, .int .i64 x.n, .int .u64 x.u, .string x.b] (by rfl) HX1.out hon h63 hby HS1.out ?_; intro v9 w9 hown9 hg9 hat9; obtain ⟨A9, c9, rfl⟩ := row_any hown9; have hlt9 := fun j e => (HOW.out.lt j e).1; have HN : Hid (Bel (w.alloc (.cells #[.slice (some ⟨bc, oc, none⟩) cols.length cc, vk, vu] 26)) w9 ∧ w9.ownsRow (w.heap.size + 1) 48 4 (.slice A9 (k + 1) c9) (k + 1) (vrows (L ++ [x]))) := ⟨Below.grown HBA.out hg9 HBA.out.size (fun j e => by have := hlt9 j e; simpa using this), by rw [HVA.out]; exact hown9⟩; clear hown9 hg9 hat9 hlt9)
              go_roundw
              case rel => exact ⟨k + 1, m + n, L ++ [x], by omega, HNM.out, by go_num, by first | rfl | go_num | (simp; done), ⟨A9, c9, rfl⟩, HNX.out, HN.out⟩
              case measure => simp [intOf]; omega
    · obtain rfl : k = cols.length := by omega
      have ht : R = some (L, m) := by
        have := HL.out.1
        rw [List.take_length] at this
        rw [HR.out]; exact this
      subst ht
      have HV := Lib.hid (HL.out.2.symm ▸ HO.out.2 : wr.ownsRow (w.heap.size + 1) 48 4 (.slice A cols.length c) L.length (vrows L))
      have HB := Lib.hid (((Bel.refl w).alloc (.cells #[.slice Ac cols.length cc, vk, vu] 26)).then_ HO.out.1)
      clear hlt hk
      go_wp2
      go_ret2
      exact ⟨_, rfl, HV.out, HB.out⟩
end Go.Proofs.YtkklmflclmgjeaaGreatDoor

/-
  The codec: the document's Decode.
-/
set_option linter.unusedVariables false
set_option linter.unusedSimpArgs false
set_option linter.unusedVariables false
set_option linter.unusedSimpArgs false
namespace Go.Proofs.YtkklmflclmgjeaaGreatDoor
open Go.RowKit Go.Shelf Go.Lib

set_option maxRecDepth 100000 in
set_option maxHeartbeats 1000000 in
theorem r4Decode_any (vc vk vu vb : Value) (cols : List Col) (key : List Int) (uq : List (List Int)) (s : List UInt8) (hs : s.length ≤ 1000000) (w : World) (hc : ColsAt w vc cols) (hk : IntsAt w vk key) (hu : ListsAt w vu uq) (hb : BsAt w vb s) (hnm : ∀ c ∈ cols, c.name.size ≤ 9223372036854775807) :
    Calls Tryz.prog 43 #[.agg #[vc, vk, vu], vb] w fun e w' => ∃ v, e = .returned (.tuple #[v, .int .i64 (decR cols key uq s).2]) ∧ ValsAt w' v (decR cols key uq s).1 ∧ Bel w w' := by
  have hb0 : Bel w (w.alloc (.cells #[vc, vk, vu] 26)) := (Bel.refl w).alloc _
  have HCK := Lib.hid (tRight_any vc vk vu cols key uq _ (hc.bel hb0) (hk.bel hb0) (hu.bel hb0) hnm)
  unfold decR
  cases hr : rightS cols key uq with
  | false =>
    rw [hr] at HCK
    have HCK := HCK
    clear hc hk hu hb
    go_enter Tryz.func43, Tryz.ntmps43
    go_wp2_with fail
    refine HCK.out.mono ?_
    rintro e w4 ⟨rfl, hb4⟩
    go_wp2
    go_ret2
    exact ⟨_, rfl, vals_nil _, hb0.then_ hb4⟩
  | true =>
    rw [hr] at HCK
    rw [if_pos rfl]
    obtain ⟨hrc, hl1, hl8⟩ := right_cols hr
    have HRE := Lib.hid (fun V (h : Bel w V) => r4Read_any vc vk vu vb cols hrc (by omega) s hs V (hc.bel h) (hb.bel h))
    have HBK := Lib.hid (fun l m (h : rdRow cols s = some (l, m)) => rdRow_back hrc h)
    have hsI : (s.length : Int) ≤ 1000000 := by omega
    obtain ⟨A, c, rfl, -, -, -⟩ := hb
    obtain ⟨Ac, cc, rfl, -⟩ := hc
    obtain ⟨Ak, ck, rfl, -⟩ := hk
    obtain ⟨Au, cu, rfl, -⟩ := hu
    have HL1 := Lib.hid hl1
    clear hrc hl1 hl8 hs
    generalize rdRow cols s = R at *
    cases R with
    | none =>
      clear HBK
      go_enter Tryz.func43, Tryz.ntmps43
      go_wp2_with fail
      refine HCK.out.mono ?_
      rintro e w4 ⟨rfl, hb4⟩
      have hb5 := hb0.then_ hb4
      have d0 := hb4.c (p := ⟨w.heap.size, 0, none⟩) (v := .slice Ac cols.length cc) (by go_simp)
      have d1 := hb4.c (p := ⟨w.heap.size, 1, none⟩) (v := .slice Ak key.length ck) (by go_simp)
      have d2 := hb4.c (p := ⟨w.heap.size, 2, none⟩) (v := .slice Au uq.length cu) (by go_simp)
      clear hb4 hb0
      go_wp2_with fail
      refine (HRE.out _ hb5).mono ?_
      rintro e w6 ⟨rfl, hb6⟩
      go_wp2
      go_ret2
      exact ⟨_, rfl, vals_nil _, hb5.then_ hb6⟩
    | some p =>
      obtain ⟨l, m⟩ := p
      obtain ⟨hml, -, -, -, -, hcm⟩ := HBK.out l m rfl
      have hm0 : ((m : Int) == 0) = false := by rw [beq_eq_false_iff_ne]; have := HL1.out; omega
      have hm0' : (0 : Int) < m := by have := HL1.out; omega
      clear HBK hcm HL1
      dsimp only
      have hmI : (m : Int) ≤ s.length := by omega
      by_cases he : m = s.length
      · rw [if_pos he]
        have hne : ((m : Int) != s.length) = false := by simp [he]
        subst he
        go_enter Tryz.func43, Tryz.ntmps43
        go_wp2_with fail
        refine HCK.out.mono ?_
        rintro e w4 ⟨rfl, hb4⟩
        have hb5 := hb0.then_ hb4
        have d0 := hb4.c (p := ⟨w.heap.size, 0, none⟩) (v := .slice Ac cols.length cc) (by go_simp)
        have d1 := hb4.c (p := ⟨w.heap.size, 1, none⟩) (v := .slice Ak key.length ck) (by go_simp)
        have d2 := hb4.c (p := ⟨w.heap.size, 2, none⟩) (v := .slice Au uq.length cu) (by go_simp)
        clear hb4 hb0
        go_wp2_with fail
        refine (HRE.out _ hb5).mono ?_
        rintro e w6 ⟨v, rfl, hv6, hb6⟩
        go_wp2
        go_ret2
        exact ⟨_, rfl, ValsAt.of_own hv6 rfl, hb5.then_ hb6⟩
      · rw [if_neg he]
        have hne : ((m : Int) != s.length) = true := by rw [bne_iff_ne]; omega
        clear he
        go_enter Tryz.func43, Tryz.ntmps43
        go_wp2_with fail
        refine HCK.out.mono ?_
        rintro e w4 ⟨rfl, hb4⟩
        have hb5 := hb0.then_ hb4
        have d0 := hb4.c (p := ⟨w.heap.size, 0, none⟩) (v := .slice Ac cols.length cc) (by go_simp)
        have d1 := hb4.c (p := ⟨w.heap.size, 1, none⟩) (v := .slice Ak key.length ck) (by go_simp)
        have d2 := hb4.c (p := ⟨w.heap.size, 2, none⟩) (v := .slice Au uq.length cu) (by go_simp)
        clear hb4 hb0
        go_wp2_with fail
        refine (HRE.out _ hb5).mono ?_
        rintro e w6 ⟨v, rfl, hv6, hb6⟩
        go_wp2
        go_ret2
        exact ⟨_, rfl, vals_nil _, hb5.then_ hb6⟩
end Go.Proofs.YtkklmflclmgjeaaGreatDoor

/-
  CodecReads, its walk.
-/
set_option linter.unusedVariables false
set_option linter.unusedSimpArgs false
set_option linter.unusedVariables false
set_option linter.unusedSimpArgs false
namespace Go.Proofs.YtkklmflclmgjeaaGreatDoor
open Go.RowKit Go.Shelf Go.Lib
attribute [local go_sem] Oper.semAt_some

set_option maxRecDepth 100000 in
set_option maxHeartbeats 8000000 in
theorem kReads_any (vc vk vu vb : Value) (cols : List Col) (key : List Int) (uq : List (List Int)) (s : List UInt8) (w : World) (hg : ErrType w) (hc : ColsAt w vc cols) (hk : IntsAt w vk key) (hu : ListsAt w vu uq) (hb : BsAt w vb s)
    (hnm : ∀ c ∈ cols, c.name.size ≤ maxLen) : Calls Tryz.prog 10 #[.agg #[vc, vk, vu], vb] w fun e w' => e = .returned (.bool true) ∧ Bel w w' := by
  have hb0 : Bel w (w.alloc (.cells #[vc, vk, vu] 26)) := (Bel.refl w).alloc _
  have HFW := Lib.hid (fun V (hb : Bel w V) => kfew_any vc vk vu cols key uq V (hc.bel hb) (hk.bel hb) (hu.bel hb) hnm)
  have HW := Lib.hid (fun V (hb : Bel w V) => kworks_any V (hg.bel hb))
  have hnm2 : ∀ c ∈ cols, c.name.size ≤ 9223372036854775807 := fun c hc => by have := hnm c hc; unfold maxLen at this; omega
  have HCL : Hid (∀ V, Bel (w.alloc (.cells #[vc, vk, vu] 26)) V → V.cell? ⟨w.heap.size, 0, none⟩ = some vc ∧ V.cell? ⟨w.heap.size, 1, none⟩ = some vk ∧ V.cell? ⟨w.heap.size, 2, none⟩ = some vu) := fun V h => ⟨h.c (by go_simp), h.c (by go_simp), h.c (by go_simp)⟩
  have HSD := Lib.hid (fun (hm : s.length ≤ 2000) V (h : Bel w V) => cdDecode_any vc vk vu vb cols key uq s (by omega) V (hc.bel h) (hk.bel h) (hu.bel h) (hb.bel h))
  have HTD := Lib.hid (fun (hm : s.length ≤ 2000) V (h : Bel w V) => r4Decode_any vc vk vu vb cols key uq s (by omega) V (hc.bel h) (hk.bel h) (hu.bel h) (hb.bel h) hnm2)
  have HEN := Lib.hid (fun (v : Value) (l : List Val) (hw : ∀ x ∈ l, x.Wf) (hm : l.length ≤ 8) V (h : Bel w V) (hv : ValsAt V v l) => cdEncode_any vc vk vu v cols key uq l V (hg.bel h) (hc.bel h) (hk.bel h) (hu.bel h) hv hw (by omega))
  have HPL : Hid ((decR cols key uq s).2 = 0 → encGives cols key uq (decR cols key uq s).1 = (s, 0) ∧ (∀ x ∈ (decR cols key uq s).1, x.Wf) ∧ (decR cols key uq s).1.length ≤ 8) := fun h => by
    obtain ⟨h1, h2, h3, h4⟩ := enc_dec h
    exact ⟨by unfold encGives; rw [if_pos h1, h2], h3, h4⟩
  have HBS := Lib.hid hb
  obtain ⟨Ab, cb, rfl, hbn, hbm, -⟩ := hb
  have hsI : (s.length : Int) ≤ 9223372036854775807 := by unfold maxLen at hbm; omega
  clear hg hc hk hu hnm hnm2 hbn hbm
  cases hf : fewB cols key uq
  · rw [hf] at HFW
    clear hf
    go_enter Tryz.func10, Tryz.ntmps10
    go_wp2_with (first | (go_at_call 34; refine (HFW.out _ hb0).mono ?_; rintro e w4 ⟨rfl, hb4⟩) | (go_at_call 36; refine (HW.out _ (hb0.then_ hb4)).mono ?_; rintro e w9 ⟨rfl, hb9⟩))
    go_ret
    exact ⟨rfl, (hb0.then_ hb4).then_ hb9⟩
  · rw [hf] at HFW
    clear hf
    by_cases hs : s.length ≤ 2000
    case neg =>
      have hsb : (2000 : Int) < s.length := by omega
      clear hs
      go_enter Tryz.func10, Tryz.ntmps10
      go_wp2_with (first | (go_at_call 34; refine (HFW.out _ hb0).mono ?_; rintro e w4 ⟨rfl, hb4⟩) | (go_at_call 36; refine (HW.out _ (hb0.then_ hb4)).mono ?_; rintro e w9 ⟨rfl, hb9⟩))
      go_ret
      exact ⟨rfl, (hb0.then_ hb4).then_ hb9⟩
    case pos =>
      have hsb : decide ((2000 : Int) < s.length) = false := by simp; omega
      have HSD := Lib.hid (HSD.out hs)
      have HTD := Lib.hid (HTD.out hs)
      obtain ⟨l, no, hD⟩ : ∃ a b, decR cols key uq s = (a, b) := ⟨_, _, rfl⟩
      rw [hD] at HSD HTD HPL
      dsimp only at HSD HTD HPL
      clear hD hs
      go_enter Tryz.func10, Tryz.ntmps10
      go_wp2_with (go_at_call 34; refine (HFW.out _ hb0).mono ?_; rintro e w4 ⟨rfl, hb4⟩; obtain ⟨q0, q1, q2⟩ := HCL.out w4 hb4)
      refine (HSD.out _ (hb0.then_ hb4)).mono ?_
      rintro e w5 ⟨v5, rfl, hv5, hb5⟩
      have HV5 := Lib.hid hv5
      obtain ⟨A5, c5, rfl, -⟩ := hv5
      obtain ⟨q0, q1, q2⟩ := HCL.out w5 (hb4.then_ hb5)
      have HB5 := Lib.hid (hb4.then_ hb5)
      clear hb4 hb5 HFW HSD
      go_wp2_with fail
      refine (HTD.out _ (hb0.then_ HB5.out)).mono ?_
      rintro e w6 ⟨v6, rfl, hv6, hb6⟩
      have HSX := vrSame_any _ _ l l w6 (HV5.out.bel hb6) hv6
      rw [decide_eq_true rfl] at HSX
      have HSX := Lib.hid HSX
      have HV6 := Lib.hid (HV5.out.bel hb6)
      obtain ⟨A6, c6, rfl, -⟩ := hv6
      have HB6 := Lib.hid (HB5.out.then_ hb6)
      clear hb6 HTD HV5 q0 q1 q2
      by_cases h0 : no = 0
      · subst h0
        obtain ⟨p1, p2, p3⟩ := HPL.out rfl
        clear HPL
        go_wp2_with (first | (go_at_call 22; refine HSX.out.mono ?_; rintro e w7 ⟨rfl, hb7⟩; obtain ⟨q0, q1, q2⟩ := HCL.out w7 (HB6.out.then_ hb7)) | (go_at_call 41; refine (knum_any _ _).mono ?_; rintro e w' ⟨rfl, rfl⟩))
        have HE := HEN.out _ l p2 p3 w7 ((hb0.then_ HB6.out).then_ hb7) (HV6.out.bel hb7)
        rw [p1] at HE
        dsimp only at HE
        clear HEN p1 p2 p3
        refine HE.mono ?_
        rintro e w8 ⟨v8, rfl, hv8, hb8⟩
        obtain ⟨A8, c8, rfl, -, -, r8⟩ := hv8
        have HB8 := Lib.hid (((hb0.then_ HB6.out).then_ hb7).then_ hb8)
        have hc8 : (convert 63 9 (.slice A8 s.length c8)).run Tryz.prog w8 = .ok (.string ⟨s.toArray⟩) w8 := conv_reads (s := s) _ r8
        have hcb : (convert 63 9 (.slice Ab s.length cb)).run Tryz.prog w8 = .ok (.string ⟨s.toArray⟩) w8 := by
          obtain ⟨A, c, he, -, -, hr⟩ := HBS.out.bel HB8.out
          injection he with e1 e2 e3
          subst e1 e3
          exact conv_reads (s := s) _ hr
        clear hb7 hb8 r8 HE
        go_wp2_with (first | (go_at_call 41; refine (knum_any _ _).mono ?_; rintro e w' ⟨rfl, rfl⟩) | (go_at_call 36; refine (HW.out _ HB8.out).mono ?_; rintro e w11 ⟨rfl, hb11⟩))
        go_ret
        exact ⟨rfl, HB8.out.then_ hb11⟩
      · have hn0 : (no != 0) = true := by rw [bne_iff_ne]; exact h0
        clear h0 HPL HEN
        go_wp2_with (first | (go_at_call 22; refine HSX.out.mono ?_; rintro e w7 ⟨rfl, hb7⟩; have HB7 := (hb0.then_ HB6.out).then_ hb7) | (go_at_call 41; refine (knum_any _ _).mono ?_; rintro e w' ⟨rfl, rfl⟩) | (go_at_call 36; refine (HW.out _ HB7).mono ?_; rintro e w11 ⟨rfl, hb11⟩))
        go_ret
        exact ⟨rfl, HB7.then_ hb11⟩
end Go.Proofs.YtkklmflclmgjeaaGreatDoor
