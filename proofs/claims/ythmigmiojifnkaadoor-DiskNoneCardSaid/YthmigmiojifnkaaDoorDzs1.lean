/-
  The law DiskNone's walk, one of its ways.
-/
import Derived.Test.YthmigmiojifnkaaDoorDz
set_option linter.unusedVariables false
set_option linter.unusedSimpArgs false
set_option linter.unusedVariables false
set_option linter.unusedSimpArgs false
namespace Go.Proofs.YthmigmiojifnkaaDoor
open Go.RowKit Go.Shelf
attribute [local go_sem] Oper.semAt_some
set_option maxRecDepth 100000 in
set_option maxHeartbeats 8000000 in
theorem none_few_s1 (what file n torn : Int) (A : Option Addr) (nb cb : Nat) (hnb : nb ≤ 60) (hm : nb ≤ maxLen) (hpar : (n.tmod 2 == 0) = true) (hfl : 0 ≤ file) (hfh : ¬ file < 64) (w : World) (hg : ErrType w) :
    Calls Tryd.prog 7 #[.agg #[.int .i64 what, .int .i64 file, .int .i64 n, .int .i64 torn, .slice A nb cb]] w fun e w' => e = .returned (.bool true) ∧ Bel w w' := by
  have h1 : decide (nb ≤ 60) = true := by simpa using hnb
  have HF := Lib.hid (few_one (w.heap.size + 1 + 1) A nb cb hm (((w.alloc (.cells #[.int .i64 what, .int .i64 file, .int .i64 n, .int .i64 torn, .slice A nb cb] 33)).alloc (.cells #[.bool false] 4)).alloc (.cells #[.int .i64 what, .int .i64 file, .int .i64 n, .int .i64 torn, .slice A nb cb] 33)) (by go_simp))
  have hba : Bel w (((w.alloc (.cells #[.int .i64 what, .int .i64 file, .int .i64 n, .int .i64 torn, .slice A nb cb] 33)).alloc (.cells #[.bool false] 4)).alloc (.cells #[.int .i64 what, .int .i64 file, .int .i64 n, .int .i64 torn, .slice A nb cb] 33)) := (((Bel.refl w).alloc _).alloc _).alloc _
  have hown : OwnC w.heap.size file n torn (.slice A nb cb) (((w.alloc (.cells #[.int .i64 what, .int .i64 file, .int .i64 n, .int .i64 torn, .slice A nb cb] 33)).alloc (.cells #[.bool false] 4)).alloc (.cells #[.int .i64 what, .int .i64 file, .int .i64 n, .int .i64 torn, .slice A nb cb] 33)) := ⟨by go_simp, by go_simp, by go_simp, by go_simp, by go_simp, by go_simp⟩
  have HG := Lib.hid hg
  have HBA := Lib.hid hba
  have HO := Lib.hid hown
  rw [h1] at HF
  clear hm hnb hg h1 hba hown
  refine calls_of_wp_marks 6 Tryd.func7 rfl ?_
  simp only [Tryd.ntmps7, List.size_toArray, List.length_cons, List.length_nil, Nat.reduceAdd, Nat.reduceSub, Array.replicate_succ, Array.replicate_zero, List.push_toArray, List.append_toArray, List.nil_append, List.cons_append]
  have hnf := fun (f : Fn) (a b : Array Value) (w : World) => (show (binOp .eql 85 (.func f a b) .nilFunc).run Tryd.prog w = .ok (.bool false) w by kernel_rfl)
  go_wp2_with (go_at_call 8; refine HF.out.mono ?_; rintro e w' ⟨rfl, rfl⟩)
  obtain ⟨W, hW⟩ : ∃ W, W = (((w.alloc (.cells #[.int .i64 what, .int .i64 file, .int .i64 n, .int .i64 torn, .slice A nb cb] 33)).alloc (.cells #[.bool false] 4)).alloc (.cells #[.int .i64 what, .int .i64 file, .int .i64 n, .int .i64 torn, .slice A nb cb] 33)).alloc (.cells #[.map none, .int .i64 0, .map none, .slice none 0 0] 82) := ⟨_, rfl⟩
  rw [← hW]
  have hbW : Bel (((w.alloc (.cells #[.int .i64 what, .int .i64 file, .int .i64 n, .int .i64 torn, .slice A nb cb] 33)).alloc (.cells #[.bool false] 4)).alloc (.cells #[.int .i64 what, .int .i64 file, .int .i64 n, .int .i64 torn, .slice A nb cb] 33)) W := by rw [hW]; exact (Bel.refl _).alloc _
  have hno : NoDisk W (some ⟨w.heap.size + 1 + 1 + 1, 0, none⟩) := .inr ⟨_, _, _, _, rfl, by rw [hW]; have := World.alloc_heap_new (((w.alloc (.cells #[.int .i64 what, .int .i64 file, .int .i64 n, .int .i64 torn, .slice A nb cb] 33)).alloc (.cells #[.bool false] 4)).alloc (.cells #[.int .i64 what, .int .i64 file, .int .i64 n, .int .i64 torn, .slice A nb cb] 33)) (.cells #[.map none, .int .i64 0, .map none, .slice none 0 0] 82); simpa using this⟩
  have hO := HO.out.bel hbW
  have hB := HBA.out.then_ hbW
  clear hW hbW
  have HNO := Lib.hid hno
  have HO0 := Lib.hid hO
  have HB0 := Lib.hid hB
  clear hno hO hB
  have HR := Lib.hid (read_no HNO.out (HG.out.bel HB0.out) file)
  refine HR.out.mono ?_
  rintro e w1 ⟨rfl, hb1⟩
  have HN1 := Lib.hid (HNO.out.bel hb1)
  have HO1 := Lib.hid (HO0.out.bel hb1)
  have HB1 := Lib.hid (HB0.out.then_ hb1)
  clear hb1 HR
  go_wp2_with (go_at_call 38; refine (files_no HN1.out).mono ?_; rintro e w' ⟨rfl, rfl⟩)
  obtain ⟨V, hV⟩ : ∃ V, V = (w1.alloc (.map #[] 0)).alloc (.cells #[.map (some w1.heap.size)] 79) := ⟨_, rfl⟩
  rw [← hV]
  have hbV : Bel w1 V := by rw [hV]; exact ((Bel.refl w1).alloc _).alloc _
  have hszV : V.heap.size = w1.heap.size + 2 := by rw [hV]; simp
  have v1 : V.cell? ⟨w1.heap.size + 1, 0, none⟩ = some (.map (some w1.heap.size)) := by rw [hV]; go_simp
  have v2 : V.heap[w1.heap.size]? = some (.map #[] 0) := by rw [hV]; exact (Below.heap_alloc _ _ _ (by simp)).trans (World.alloc_heap_new w1 _)
  have HN2 := Lib.hid (HN1.out.bel hbV)
  have HO2 := Lib.hid (HO1.out.bel hbV)
  have HB2 := Lib.hid (HB1.out.then_ hbV)
  clear hV hbV
  refine wp_seq 6 (by omega) (gf := 69) (lb := #[.pointer (some ⟨w1.heap.size + 1, 0, none⟩)]) rfl (enters_of Tryd.func69 (by kernel_rfl) rfl)
    (filesC_seq 5 (by omega) (w1.heap.size + 1) w1.heap.size V.heap.size V (by omega) (by omega) (Nat.le_refl _) v1 v2) (Nat.le_refl _) (Below.refl _ _) (fun _ => rfl)
    (fun pre U => Bel V U) (fun _ _ _ => False) (ownFrom_below (Nat.le_refl _) (Nat.le_refl _)) (fun _ _ _ _ _ hs _ _ => hs) (fun _ _ _ _ hs _ _ => hs) (Bel.refl V) ?_ ?_ ?_ ?_ ?_
  rotate_left
  · intro l x U K hK
    gi_wp2
    exact hK
  · intro l pre x rest U hx
    simp at hx
  · intro D U hD hbU hdf
    have HDF2 := Lib.hid hdf
    have HN3 := Lib.hid (HN2.out.bel hbU)
    have HO3 := Lib.hid (HO2.out.bel hbU)
    have HB3 := Lib.hid (HB2.out.then_ hbU)
    have HDD : Hid (w.heap.size ≤ D) := by show _ ≤ _; have := HB2.out.size; omega
    clear hdf hbU hD hszV v1 v2
    have HNW := Lib.hid (new_any 9 (by decide) (by decide) U)
    go_wp2_with fail
    refine HNW.out.mono ?_
    rintro e w4 ⟨bd, fp, rfl, hD4, hf4, hb4⟩
    have HDK4 := Lib.hid hD4
    have HF4 : Hid (∀ b, fp b → b ≠ w.heap.size + 1) := fun b hb e => by have := hf4 b hb; have := World.block_lt_of_cell? (w := U) (a := ⟨w.heap.size + 1, 0, none⟩) HO3.out.2.2.2.2.1; simp at this; omega
    clear hD4 hf4 HNW
    have HN4 := Lib.hid (HN3.out.bel hb4)
    have HO4 := Lib.hid (HO3.out.bel hb4)
    have HB4 := Lib.hid (HB3.out.then_ hb4)
    have HDF4 : Hid (w4.heap[D]? = some (.deferred (some []))) := hb4.deferred HDF2.out
    clear hb4
    obtain ⟨q1, q2, q3, q4, q5, q6⟩ := HO4.out
    have hfb1 : decide (file < 0) = false := by simp; omega
    have hfo : file < 0 ∨ 64 ≤ file := by omega
    have hfb2 : decide (63 < file) = true := by simp; omega
    have hfb3 : 63 < file := by omega
    clear hfl hfh
    have HFO := Lib.hid hfo
    clear hfo
    have HC := Lib.hid (read_out HDK4.out fit9 (HG.out.bel HB4.out) file HFO.out)
    go_wp2_with fail
    refine HC.out.mono ?_
    rintro e w5 ⟨rfl, hb⟩
    have HN5 := Lib.hid (HN4.out.bel hb)
    have HO5 := Lib.hid (HO4.out.bel hb)
    have HB5 := Lib.hid (HB4.out.then_ hb)
    have HDF5 : Hid (w5.heap[D]? = some (.deferred (some []))) := hb.deferred HDF4.out
    have HDK5 := Lib.hid (HDK4.out.bel hb)
    clear hb
    clear HC q1 q2 q3 q4 q5 q6
    obtain ⟨q1, q2, q3, q4, q5, q6⟩ := HO5.out
    have KA : Hid (∀ V : World, (V.cell? ⟨w.heap.size, 1, none⟩ = some (.int .i64 file) ∧ V.cell? ⟨w.heap.size, 2, none⟩ = some (.int .i64 n) ∧ V.cell? ⟨w.heap.size, 3, none⟩ = some (.int .i64 torn) ∧ V.cell? ⟨w.heap.size, 4, none⟩ = some (.slice A nb cb) ∧ V.cell? ⟨w.heap.size + 1, 0, none⟩ = some (.bool (boolAt V ⟨w.heap.size + 1, 0, none⟩)) ∧ V.frozen? ⟨w.heap.size + 1, 0, none⟩ = false ∧ Hid (Rest w D (some ⟨w.heap.size + 1 + 1 + 1, 0, none⟩) bd fp V)) → Calls Tryd.prog 26 #[.pointer (some ⟨w.heap.size + 1 + 1 + 1, 0, none⟩), .int .i64 file, .slice A nb cb] V fun e w' => e = .returned (.int .i64 1) ∧ Bel V w') := fun V h => append_no (rNo h) (rErr h) _ _
    have KC : Hid (∀ V : World, (V.cell? ⟨w.heap.size, 1, none⟩ = some (.int .i64 file) ∧ V.cell? ⟨w.heap.size, 2, none⟩ = some (.int .i64 n) ∧ V.cell? ⟨w.heap.size, 3, none⟩ = some (.int .i64 torn) ∧ V.cell? ⟨w.heap.size, 4, none⟩ = some (.slice A nb cb) ∧ V.cell? ⟨w.heap.size + 1, 0, none⟩ = some (.bool (boolAt V ⟨w.heap.size + 1, 0, none⟩)) ∧ V.frozen? ⟨w.heap.size + 1, 0, none⟩ = false ∧ Hid (Rest w D (some ⟨w.heap.size + 1 + 1 + 1, 0, none⟩) bd fp V)) → Calls Tryd.prog 39 #[.pointer (some ⟨w.heap.size + 1 + 1 + 1, 0, none⟩), .int .i64 file, .int .i64 n] V fun e w' => e = .returned (.int .i64 1) ∧ Bel V w') := fun V h => cut_no (rNo h) (rErr h) _ _
    have KS : Hid (∀ V : World, (V.cell? ⟨w.heap.size, 1, none⟩ = some (.int .i64 file) ∧ V.cell? ⟨w.heap.size, 2, none⟩ = some (.int .i64 n) ∧ V.cell? ⟨w.heap.size, 3, none⟩ = some (.int .i64 torn) ∧ V.cell? ⟨w.heap.size, 4, none⟩ = some (.slice A nb cb) ∧ V.cell? ⟨w.heap.size + 1, 0, none⟩ = some (.bool (boolAt V ⟨w.heap.size + 1, 0, none⟩)) ∧ V.frozen? ⟨w.heap.size + 1, 0, none⟩ = false ∧ Hid (Rest w D (some ⟨w.heap.size + 1 + 1 + 1, 0, none⟩) bd fp V)) → Calls Tryd.prog 24 #[.pointer (some ⟨w.heap.size + 1 + 1 + 1, 0, none⟩)] V fun e w' => e = .returned (.int .i64 1) ∧ V = w') := fun V h => sync_no (rNo h)
    have KR : Hid (∀ V : World, (V.cell? ⟨w.heap.size, 1, none⟩ = some (.int .i64 file) ∧ V.cell? ⟨w.heap.size, 2, none⟩ = some (.int .i64 n) ∧ V.cell? ⟨w.heap.size, 3, none⟩ = some (.int .i64 torn) ∧ V.cell? ⟨w.heap.size, 4, none⟩ = some (.slice A nb cb) ∧ V.cell? ⟨w.heap.size + 1, 0, none⟩ = some (.bool (boolAt V ⟨w.heap.size + 1, 0, none⟩)) ∧ V.frozen? ⟨w.heap.size + 1, 0, none⟩ = false ∧ Hid (Rest w D (some ⟨w.heap.size + 1 + 1 + 1, 0, none⟩) bd fp V)) → Calls Tryd.prog 15 #[.pointer (some ⟨w.heap.size + 1 + 1 + 1, 0, none⟩), .int .i64 n, .int .i64 torn] V fun e w' => e = .returned (.int .i64 1) ∧ V = w') := fun V h => crash_no (rNo h) _ _
    have KL : Hid (∀ V : World, (V.cell? ⟨w.heap.size, 1, none⟩ = some (.int .i64 file) ∧ V.cell? ⟨w.heap.size, 2, none⟩ = some (.int .i64 n) ∧ V.cell? ⟨w.heap.size, 3, none⟩ = some (.int .i64 torn) ∧ V.cell? ⟨w.heap.size, 4, none⟩ = some (.slice A nb cb) ∧ V.cell? ⟨w.heap.size + 1, 0, none⟩ = some (.bool (boolAt V ⟨w.heap.size + 1, 0, none⟩)) ∧ V.frozen? ⟨w.heap.size + 1, 0, none⟩ = false ∧ Hid (Rest w D (some ⟨w.heap.size + 1 + 1 + 1, 0, none⟩) bd fp V)) → Calls Tryd.prog 16 #[.pointer (some ⟨w.heap.size + 1 + 1 + 1, 0, none⟩)] V fun e w' => e = .returned (.int .i64 0) ∧ V = w') := fun V h => loose_no (rNo h)
    have KT : Hid (∀ V : World, (V.cell? ⟨w.heap.size, 1, none⟩ = some (.int .i64 file) ∧ V.cell? ⟨w.heap.size, 2, none⟩ = some (.int .i64 n) ∧ V.cell? ⟨w.heap.size, 3, none⟩ = some (.int .i64 torn) ∧ V.cell? ⟨w.heap.size, 4, none⟩ = some (.slice A nb cb) ∧ V.cell? ⟨w.heap.size + 1, 0, none⟩ = some (.bool (boolAt V ⟨w.heap.size + 1, 0, none⟩)) ∧ V.frozen? ⟨w.heap.size + 1, 0, none⟩ = false ∧ Hid (Rest w D (some ⟨w.heap.size + 1 + 1 + 1, 0, none⟩) bd fp V)) → Calls Tryd.prog 32 #[.pointer (some ⟨w.heap.size + 1 + 1 + 1, 0, none⟩)] V fun e w' => e = .returned (.int .i64 0) ∧ V = w') := fun V h => left_no (rNo h)
    have KP : Hid (∀ V : World, (V.cell? ⟨w.heap.size, 1, none⟩ = some (.int .i64 file) ∧ V.cell? ⟨w.heap.size, 2, none⟩ = some (.int .i64 n) ∧ V.cell? ⟨w.heap.size, 3, none⟩ = some (.int .i64 torn) ∧ V.cell? ⟨w.heap.size, 4, none⟩ = some (.slice A nb cb) ∧ V.cell? ⟨w.heap.size + 1, 0, none⟩ = some (.bool (boolAt V ⟨w.heap.size + 1, 0, none⟩)) ∧ V.frozen? ⟨w.heap.size + 1, 0, none⟩ = false ∧ Hid (Rest w D (some ⟨w.heap.size + 1 + 1 + 1, 0, none⟩) bd fp V)) → Calls Tryd.prog 40 #[.pointer (some ⟨w.heap.size + 1 + 1 + 1, 0, none⟩)] V fun e w' => e = .returned (.pointer none) ∧ V = w') := fun V h => copy_no (rNo h)
    have KM : Hid (∀ V : World, (V.cell? ⟨w.heap.size, 1, none⟩ = some (.int .i64 file) ∧ V.cell? ⟨w.heap.size, 2, none⟩ = some (.int .i64 n) ∧ V.cell? ⟨w.heap.size, 3, none⟩ = some (.int .i64 torn) ∧ V.cell? ⟨w.heap.size, 4, none⟩ = some (.slice A nb cb) ∧ V.cell? ⟨w.heap.size + 1, 0, none⟩ = some (.bool (boolAt V ⟨w.heap.size + 1, 0, none⟩)) ∧ V.frozen? ⟨w.heap.size + 1, 0, none⟩ = false ∧ Hid (Rest w D (some ⟨w.heap.size + 1 + 1 + 1, 0, none⟩) bd fp V)) → Calls Tryd.prog 41 #[.pointer (some ⟨w.heap.size + 1 + 1 + 1, 0, none⟩), .pointer none] V fun e w' => e = .returned (.bool true) ∧ V = w') := fun V h => same_no (rNo h)
    have KO : Hid (∀ V : World, (V.cell? ⟨w.heap.size, 1, none⟩ = some (.int .i64 file) ∧ V.cell? ⟨w.heap.size, 2, none⟩ = some (.int .i64 n) ∧ V.cell? ⟨w.heap.size, 3, none⟩ = some (.int .i64 torn) ∧ V.cell? ⟨w.heap.size, 4, none⟩ = some (.slice A nb cb) ∧ V.cell? ⟨w.heap.size + 1, 0, none⟩ = some (.bool (boolAt V ⟨w.heap.size + 1, 0, none⟩)) ∧ V.frozen? ⟨w.heap.size + 1, 0, none⟩ = false ∧ Hid (Rest w D (some ⟨w.heap.size + 1 + 1 + 1, 0, none⟩) bd fp V)) → Calls Tryd.prog 41 #[.pointer (some ⟨bd, 0, none⟩), .pointer (some ⟨w.heap.size + 1 + 1 + 1, 0, none⟩)] V fun e w' => e = .returned (.bool false) ∧ V = w') := fun V h => same_one (rDisk h) (by decide) (rNo h)
    have KW : Hid (∀ V : World, (V.cell? ⟨w.heap.size, 1, none⟩ = some (.int .i64 file) ∧ V.cell? ⟨w.heap.size, 2, none⟩ = some (.int .i64 n) ∧ V.cell? ⟨w.heap.size, 3, none⟩ = some (.int .i64 torn) ∧ V.cell? ⟨w.heap.size, 4, none⟩ = some (.slice A nb cb) ∧ V.cell? ⟨w.heap.size + 1, 0, none⟩ = some (.bool (boolAt V ⟨w.heap.size + 1, 0, none⟩)) ∧ V.frozen? ⟨w.heap.size + 1, 0, none⟩ = false ∧ Hid (Rest w D (some ⟨w.heap.size + 1 + 1 + 1, 0, none⟩) bd fp V)) → Calls Tryd.prog 9 #[] V fun e w' => e = .returned (.bool true) ∧ Bel V w') := fun V h => dworks_any _ (rErr h)
    have KST : Hid (∀ (V : World) (b : Bool), (V.cell? ⟨w.heap.size, 1, none⟩ = some (.int .i64 file) ∧ V.cell? ⟨w.heap.size, 2, none⟩ = some (.int .i64 n) ∧ V.cell? ⟨w.heap.size, 3, none⟩ = some (.int .i64 torn) ∧ V.cell? ⟨w.heap.size, 4, none⟩ = some (.slice A nb cb) ∧ V.cell? ⟨w.heap.size + 1, 0, none⟩ = some (.bool (boolAt V ⟨w.heap.size + 1, 0, none⟩)) ∧ V.frozen? ⟨w.heap.size + 1, 0, none⟩ = false ∧ Hid (Rest w D (some ⟨w.heap.size + 1 + 1 + 1, 0, none⟩) bd fp V)) → (fun V => V.cell? ⟨w.heap.size, 1, none⟩ = some (.int .i64 file) ∧ V.cell? ⟨w.heap.size, 2, none⟩ = some (.int .i64 n) ∧ V.cell? ⟨w.heap.size, 3, none⟩ = some (.int .i64 torn) ∧ V.cell? ⟨w.heap.size, 4, none⟩ = some (.slice A nb cb) ∧ V.cell? ⟨w.heap.size + 1, 0, none⟩ = some (.bool (boolAt V ⟨w.heap.size + 1, 0, none⟩)) ∧ V.frozen? ⟨w.heap.size + 1, 0, none⟩ = false ∧ Hid (Rest w D (some ⟨w.heap.size + 1 + 1 + 1, 0, none⟩) bd fp V)) (V.setCell ⟨w.heap.size + 1, 0, none⟩ (.bool b))) := fun V b h => keepSt (fun a e => by first | (cases e; show w.heap.size + 1 + 1 + 1 ≠ _; omega) | cases e) HF4.out b h
    have KD : Hid (∀ V : World, (V.cell? ⟨w.heap.size, 1, none⟩ = some (.int .i64 file) ∧ V.cell? ⟨w.heap.size, 2, none⟩ = some (.int .i64 n) ∧ V.cell? ⟨w.heap.size, 3, none⟩ = some (.int .i64 torn) ∧ V.cell? ⟨w.heap.size, 4, none⟩ = some (.slice A nb cb) ∧ V.cell? ⟨w.heap.size + 1, 0, none⟩ = some (.bool (boolAt V ⟨w.heap.size + 1, 0, none⟩)) ∧ V.frozen? ⟨w.heap.size + 1, 0, none⟩ = false ∧ Hid (Rest w D (some ⟨w.heap.size + 1 + 1 + 1, 0, none⟩) bd fp V)) → V.heap[D]? = some (.deferred (some [])) ∧ Bel w V) := fun V h => ⟨h.2.2.2.2.2.2.out.2.2.2.1, h.2.2.2.2.2.2.out.2.2.2.2⟩
    have KE : Hid (∀ V : World, ((V.setCell ⟨w.heap.size + 1, 0, none⟩ (.bool true)).cell? ⟨w.heap.size, 1, none⟩ = some (.int .i64 file) ∧ (V.setCell ⟨w.heap.size + 1, 0, none⟩ (.bool true)).cell? ⟨w.heap.size, 2, none⟩ = some (.int .i64 n) ∧ (V.setCell ⟨w.heap.size + 1, 0, none⟩ (.bool true)).cell? ⟨w.heap.size, 3, none⟩ = some (.int .i64 torn) ∧ (V.setCell ⟨w.heap.size + 1, 0, none⟩ (.bool true)).cell? ⟨w.heap.size, 4, none⟩ = some (.slice A nb cb) ∧ (V.setCell ⟨w.heap.size + 1, 0, none⟩ (.bool true)).cell? ⟨w.heap.size + 1, 0, none⟩ = some (.bool (boolAt (V.setCell ⟨w.heap.size + 1, 0, none⟩ (.bool true)) ⟨w.heap.size + 1, 0, none⟩)) ∧ (V.setCell ⟨w.heap.size + 1, 0, none⟩ (.bool true)).frozen? ⟨w.heap.size + 1, 0, none⟩ = false ∧ Hid (Rest w D (some ⟨w.heap.size + 1 + 1 + 1, 0, none⟩) bd fp (V.setCell ⟨w.heap.size + 1, 0, none⟩ (.bool true)))) → ((V.setCell ⟨w.heap.size + 1, 0, none⟩ (.bool true)).putObj D (.deferred none)).cell? ⟨w.heap.size + 1, 0, none⟩ = some (.bool true)) := fun V h => cell_putDeferred (set_true h.2.2.2.2.1) h.2.2.2.2.2.2.out.2.2.2.1 (.deferred none)
    have hS0 : (fun V : World => V.cell? ⟨w.heap.size, 1, none⟩ = some (.int .i64 file) ∧ V.cell? ⟨w.heap.size, 2, none⟩ = some (.int .i64 n) ∧ V.cell? ⟨w.heap.size, 3, none⟩ = some (.int .i64 torn) ∧ V.cell? ⟨w.heap.size, 4, none⟩ = some (.slice A nb cb) ∧ V.cell? ⟨w.heap.size + 1, 0, none⟩ = some (.bool (boolAt V ⟨w.heap.size + 1, 0, none⟩)) ∧ V.frozen? ⟨w.heap.size + 1, 0, none⟩ = false ∧ Hid (Rest w D (some ⟨w.heap.size + 1 + 1 + 1, 0, none⟩) bd fp V)) w5 := ⟨q1, q2, q3, q4, boolAt_of q5, q6, HN5.out, HG.out.bel HB5.out, HDK5.out, HDF5.out, HB5.out⟩
    go_wp2
    simp only [List.append_eq, List.cons_append, List.nil_append]
    go_region_held3 (fun V : World => V.cell? ⟨w.heap.size, 1, none⟩ = some (.int .i64 file) ∧ V.cell? ⟨w.heap.size, 2, none⟩ = some (.int .i64 n) ∧ V.cell? ⟨w.heap.size, 3, none⟩ = some (.int .i64 torn) ∧ V.cell? ⟨w.heap.size, 4, none⟩ = some (.slice A nb cb) ∧ V.cell? ⟨w.heap.size + 1, 0, none⟩ = some (.bool (boolAt V ⟨w.heap.size + 1, 0, none⟩)) ∧ V.frozen? ⟨w.heap.size + 1, 0, none⟩ = false ∧ Hid (Rest w D (some ⟨w.heap.size + 1 + 1 + 1, 0, none⟩) bd fp V))
      (first | assumption | exact hS0 | exact keepR (by assumption) (by assumption) | exact keepR (Bel.drew (Bel.refl _)) (by assumption) | exact KST.out _ _ (by assumption))
      ((first | (go_at_call 11; refine (num_any _ _).mono ?_; rintro e w2 ⟨rfl, rfl⟩) | (go_at_call 26; refine (KA.out _ (by assumption)).mono ?_; rintro e w2 ⟨rfl, hb⟩) | (go_at_call 39; refine (KC.out _ (by assumption)).mono ?_; rintro e w2 ⟨rfl, hb⟩) | (go_at_call 24; refine (KS.out _ (by assumption)).mono ?_; rintro e w2 ⟨rfl, rfl⟩) | (go_at_call 15; refine (KR.out _ (by assumption)).mono ?_; rintro e w2 ⟨rfl, rfl⟩) | (go_at_call 16; refine (KL.out _ (by assumption)).mono ?_; rintro e w2 ⟨rfl, rfl⟩) | (go_at_call 32; refine (KT.out _ (by assumption)).mono ?_; rintro e w2 ⟨rfl, rfl⟩) | (go_at_call 40; refine (KP.out _ (by assumption)).mono ?_; rintro e w2 ⟨rfl, rfl⟩) | (go_at_call 41; with_reducible refine (KM.out _ (by assumption)).mono ?_; rintro e w2 ⟨rfl, rfl⟩) | (go_at_call 41; with_reducible refine (KO.out _ (by assumption)).mono ?_; rintro e w2 ⟨rfl, rfl⟩) | (go_at_call 9; refine (KW.out _ (by assumption)).mono ?_; rintro e w2 ⟨rfl, hb⟩)))
    go_wp2
    refine leavesM_collected (D := D) (KD.out _ (by assumption)).1 (leavesM_nil ?_ ⟨rfl, (KD.out _ (by assumption)).2.putObj HDD.out _⟩)
    have hc2 := KE.out _ (by assumption)
    simp [results, Tryd.results7, go_sem, hc2]
  · intro D c pre x rest U hD hx
    simp at hx
end Go.Proofs.YthmigmiojifnkaaDoor
