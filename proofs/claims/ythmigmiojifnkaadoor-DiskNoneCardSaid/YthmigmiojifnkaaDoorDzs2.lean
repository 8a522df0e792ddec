/-
  The law DiskNone's walk, one of its ways.
-/
import Derived.Test.YthmigmiojifnkaaDoorDz
set_option linter.unusedVariables false
set_option linter.unusedSimpArgs false
set_option linter.unusedVariables false
set_option linter.unusedSimpArgs false
namespace Go.Proofs.YthmigmiojifnkaaDoor
open Go.RowKit Go.Shelf
attribute [local go_sem] Oper.semAt_some
set_option maxRecDepth 100000 in
set_option maxHeartbeats 60000000 in
theorem none_few_s2 (what file n torn : Int) (A : Option Addr) (nb cb : Nat) (hnb : nb ≤ 60) (hm : nb ≤ maxLen) (hpar : (n.tmod 2 == 0) = true) (hfl : ¬ 0 ≤ file) (w : World) (hg : ErrType w) :
    Calls Tryd.prog 7 #[.agg #[.int .i64 what, .int .i64 file, .int .i64 n, .int .i64 torn, .slice A nb cb]] w fun e w' => e = .returned (.bool true) ∧ Bel w w' := by
  have h1 : decide (nb ≤ 60) = true := by simpa using hnb
  have HF := Lib.hid (few_one (w.heap.size + 1 + 1) A nb cb hm (((w.alloc (.cells #[.int .i64 what, .int .i64 file, .int .i64 n, .int .i64 torn, .slice A nb cb] 33)).alloc (.cells #[.bool false] 4)).alloc (.cells #[.int .i64 what, .int .i64 file, .int .i64 n, .int .i64 torn, .slice A nb cb] 33)) (by go_simp))
  have hba : Bel w (((w.alloc (.cells #[.int .i64 what, .int .i64 file, .int .i64 n, .int .i64 torn, .slice A nb cb] 33)).alloc (.cells #[.bool false] 4)).alloc (.cells #[.int .i64 what, .int .i64 file, .int .i64 n, .int .i64 torn, .slice A nb cb] 33)) := (((Bel.refl w).alloc _).alloc _).alloc _
  have hown : OwnC w.heap.size file n torn (.slice A nb cb) (((w.alloc (.cells #[.int .i64 what, .int .i64 file, .int .i64 n, .int .i64 torn, .slice A nb cb] 33)).alloc (.cells #[.bool false] 4)).alloc (.cells #[.int .i64 what, .int .i64 file, .int .i64 n, .int .i64 torn, .slice A nb cb] 33)) := ⟨by go_simp, by go_simp, by go_simp, by go_simp, by go_simp, by go_simp⟩
  have HG := Lib.hid hg
  have HBA := Lib.hid hba
  have HO := Lib.hid hown
  rw [h1] at HF
  clear hm hnb hg h1 hba hown
  refine calls_of_wp_marks 6 Tryd.func7 rfl ?_
  simp only [Tryd.ntmps7, List.size_toArray, List.length_cons, List.length_nil, Nat.reduceAdd, Nat.reduceSub, Array.replicate_succ, Array.replicate_zero, List.push_toArray, List.append_toArray, List.nil_append, List.cons_append]
  have hnf := fun (f : Fn) (a b : Array Value) (w : World) => (show (binOp .eql 85 (.func f a b) .nilFunc).run Tryd.prog w = .ok (.bool false) w by kernel_rfl)
  go_wp2_with (go_at_call 8; refine HF.out.mono ?_; rintro e w' ⟨rfl, rfl⟩)
  obtain ⟨W, hW⟩ : ∃ W, W = (((w.alloc (.cells #[.int .i64 what, .int .i64 file, .int .i64 n, .int .i64 torn, .slice A nb cb] 33)).alloc (.cells #[.bool false] 4)).alloc (.cells #[.int .i64 what, .int .i64 file, .int .i64 n, .int .i64 torn, .slice A nb cb] 33)).alloc (.cells #[.map none, .int .i64 0, .map none, .slice none 0 0] 82) := ⟨_, rfl⟩
  rw [← hW]
  have hbW : Bel (((w.alloc (.cells #[.int .i64 what, .int .i64 file, .int .i64 n, .int .i64 torn, .slice A nb cb] 33)).alloc (.cells #[.bool false] 4)).alloc (.cells #[.int .i64 what, .int .i64 file, .int .i64 n, .int .i64 torn, .slice A nb cb] 33)) W := by rw [hW]; exact (Bel.refl _).alloc _
  have hno : NoDisk W (some ⟨w.heap.size + 1 + 1 + 1, 0, none⟩) := .inr ⟨_, _, _, _, rfl, by rw [hW]; have := World.alloc_heap_new (((w.alloc (.cells #[.int .i64 what, .int .i64 file, .int .i64 n, .int .i64 torn, .slice A nb cb] 33)).alloc (.cells #[.bool false] 4)).alloc (.cells #[.int .i64 what, .int .i64 file, .int .i64 n, .int .i64 torn, .slice A nb cb] 33)) (.cells #[.map none, .int .i64 0, .map none, .slice none 0 0] 82); simpa using this⟩
  have hO := HO.out.bel hbW
  have hB := HBA.out.then_ hbW
  clear hW hbW
  have HNO := Lib.hid hno
  have HO0 := Lib.hid hO
  have HB0 := Lib.hid hB
  clear hno hO hB
  have HR := Lib.hid (read_no HNO.out (HG.out.bel HB0.out) file)
  refine HR.out.mono ?_
  rintro e w1 ⟨rfl, hb1⟩
  have HN1 := Lib.hid (HNO.out.bel hb1)
  have HO1 := Lib.hid (HO0.out.bel hb1)
  have HB1 := Lib.hid (HB0.out.then_ hb1)
  clear hb1 HR
  go_wp2_with (go_at_call 38; refine (files_no HN1.out).mono ?_; rintro e w' ⟨rfl, rfl⟩)
  obtain ⟨V, hV⟩ : ∃ V, V = (w1.alloc (.map #[] 0)).alloc (.cells #[.map (some w1.heap.size)] 79) := ⟨_, rfl⟩
  rw [← hV]
  have hbV : Bel w1 V := by rw [hV]; exact ((Bel.refl w1).alloc _).alloc _
  have hszV : V.heap.size = w1.heap.size + 2 := by rw [hV]; simp
  have v1 : V.cell? ⟨w1.heap.size + 1, 0, none⟩ = some (.map (some w1.heap.size)) := by rw [hV]; go_simp
  have v2 : V.heap[w1.heap.size]? = some (.map #[] 0) := by rw [hV]; exact (Below.heap_alloc _ _ _ (by simp)).trans (World.alloc_heap_new w1 _)
  have HN2 := Lib.hid (HN1.out.bel hbV)
  have HO2 := Lib.hid (HO1.out.bel hbV)
  have HB2 := Lib.hid (HB1.out.then_ hbV)
  clear hV hbV
  refine wp_seq 6 (by omega) (gf := 69) (lb := #[.pointer (some ⟨w1.heap.size + 1, 0, none⟩)]) rfl (enters_of Tryd.func69 (by kernel_rfl) rfl)
    (filesC_seq 5 (by omega) (w1.heap.size + 1) w1.heap.size V.heap.size V (by omega) (by omega) (Nat.le_refl _) v1 v2) (Nat.le_refl _) (Below.refl _ _) (fun _ => rfl)
    (fun pre U => Bel V U) (fun _ _ _ => False) (ownFrom_below (Nat.le_refl _) (Nat.le_refl _)) (fun _ _ _ _ _ hs _ _ => hs) (fun _ _ _ _ hs _ _ => hs) (Bel.refl V) ?_ ?_ ?_ ?_ ?_
  rotate_left
  · intro l x U K hK
    gi_wp2
    exact hK
  · intro l pre x rest U hx
    simp at hx
  · intro D U hD hbU hdf
    have HDF2 := Lib.hid hdf
    have HN3 := Lib.hid (HN2.out.bel hbU)
    have HO3 := Lib.hid (HO2.out.bel hbU)
    have HB3 := Lib.hid (HB2.out.then_ hbU)
    have HDD : Hid (w.heap.size ≤ D) := by show _ ≤ _; have := HB2.out.size; omega
    clear hdf hbU hD hszV v1 v2
    have HNW := Lib.hid (new_any 9 (by decide) (by decide) U)
    go_wp2_with fail
    refine HNW.out.mono ?_
    rintro e w4 ⟨bd, fp, rfl, hD4, hf4, hb4⟩
    have HDK4 := Lib.hid hD4
    have HF4 : Hid (∀ b, fp b → b ≠ w.heap.size + 1) := fun b hb e => by have := hf4 b hb; have := World.block_lt_of_cell? (w := U) (a := ⟨w.heap.size + 1, 0, none⟩) HO3.out.2.2.2.2.1; simp at this; omega
    clear hD4 hf4 HNW
    have HN4 := Lib.hid (HN3.out.bel hb4)
    have HO4 := Lib.hid (HO3.out.bel hb4)
    have HB4 := Lib.hid (HB3.out.then_ hb4)
    have HDF4 : Hid (w4.heap[D]? = some (.deferred (some []))) := hb4.deferred HDF2.out
    clear hb4
    obtain ⟨q1, q2, q3, q4, q5, q6⟩ := HO4.out
    have hfo : file < 0 ∨ 64 ≤ file := by omega
    have hfb1 : decide (file < 0) = true := by simp; omega
    have hfb3 : file < 0 := by omega
    clear hfl
    have HFO := Lib.hid hfo
    clear hfo
    have HC := Lib.hid (read_out HDK4.out fit9 (HG.out.bel HB4.out) file HFO.out)
    go_wp2_with fail
    refine HC.out.mono ?_
    rintro e w5 ⟨rfl, hb⟩
    have HN5 := Lib.hid (HN4.out.bel hb)
    have HO5 := Lib.hid (HO4.out.bel hb)
    have HB5 := Lib.hid (HB4.out.then_ hb)
    have HDF5 : Hid (w5.heap[D]? = some (.deferred (some []))) := hb.deferred HDF4.out
    have HDK5 := Lib.hid (HDK4.out.bel hb)
    clear hb
    clear HC q1 q2 q3 q4 q5 q6
    obtain ⟨q1, q2, q3, q4, q5, q6⟩ := HO5.out
    have KA : Hid (∀ V : World, (V.cell? ⟨w.heap.size, 1, none⟩ = some (.int .i64 file) ∧ V.cell? ⟨w.heap.size, 2, none⟩ = some (.int .i64 n) ∧ V.cell? ⟨w.heap.size, 3, none⟩ = some (.int .i64 torn) ∧ V.cell? ⟨w.heap.size, 4, none⟩ = some (.slice A nb cb) ∧ V.cell? ⟨w.heap.size + 1, 0, none⟩ = some (.bool (boolAt V ⟨w.heap.size + 1, 0, none⟩)) ∧ V.frozen? ⟨w.heap.size + 1, 0, none⟩ = false ∧ Hid (Rest w D (some ⟨w.heap.size + 1 + 1 + 1, 0, none⟩) bd fp V)) → Calls Tryd.prog 26 #[.pointer (some ⟨w.heap.size + 1 + 1 + 1, 0, none⟩), .int .i64 file, .slice A nb cb] V fun e w' => e = .returned (.int .i64 1) ∧ Bel V w') := fun V h => append_no (rNo h) (rErr h) _ _
    have KC : Hid (∀ V : World, (V.cell? ⟨w.heap.size, 1, none⟩ = some (.int .i64 file) ∧ V.cell? ⟨w.heap.size, 2, none⟩ = some (.int .i64 n) ∧ V.cell? ⟨w.heap.size, 3, none⟩ = some (.int .i64 torn) ∧ V.cell? ⟨w.heap.size, 4, none⟩ = some (.slice A nb cb) ∧ V.cell? ⟨w.heap.size + 1, 0, none⟩ = some (.bool (boolAt V ⟨w.heap.size + 1, 0, none⟩)) ∧ V.frozen? ⟨w.heap.size + 1, 0, none⟩ = false ∧ Hid (Rest w D (some ⟨w.heap.size + 1 + 1 + 1, 0, none⟩) bd fp V)) → Calls Tryd.prog 39 #[.pointer (some ⟨w.heap.size + 1 + 1 + 1, 0, none⟩), .int .i64 file, .int .i64 n] V fun e w' => e = .returned (.int .i64 1) ∧ Bel V w') := fun V h => cut_no (rNo h) (rErr h) _ _
    have KS : Hid (∀ V : World, (V.cell? ⟨w.heap.size, 1, none⟩ = some (.int .i64 file) ∧ V.cell? ⟨w.heap.size, 2, none⟩ = some (.int .i64 n) ∧ V.cell? ⟨w.heap.size, 3, none⟩ = some (.int .i64 torn) ∧ V.cell? ⟨w.heap.size, 4, none⟩ = some (.slice A nb cb) ∧ V.cell? ⟨w.heap.size + 1, 0, none⟩ = some (.bool (boolAt V ⟨w.heap.size + 1, 0, none⟩)) ∧ V.frozen? ⟨w.heap.size + 1, 0, none⟩ = false ∧ Hid (Rest w D (some ⟨w.heap.size + 1 + 1 + 1, 0, none⟩) bd fp V)) → Calls Tryd.prog 24 #[.pointer (some ⟨w.heap.size + 1 + 1 + 1, 0, none⟩)] V fun e w' => e = .returned (.int .i64 1) ∧ V = w') := fun V h => sync_no (rNo h)
    have KR : Hid (∀ V : World, (V.cell? ⟨w.heap.size, 1, none⟩ = some (.int .i64 file) ∧ V.cell? ⟨w.heap.size, 2, none⟩ = some (.int .i64 n) ∧ V.cell? ⟨w.heap.size, 3, none⟩ = some (.int .i64 torn) ∧ V.cell? ⟨w.heap.size, 4, none⟩ = some (.slice A nb cb) ∧ V.cell? ⟨w.heap.size + 1, 0, none⟩ = some (.bool (boolAt V ⟨w.heap.size + 1, 0, none⟩)) ∧ V.frozen? ⟨w.heap.size + 1, 0, none⟩ = false ∧ Hid (Rest w D (some ⟨w.heap.size + 1 + 1 + 1, 0, none⟩) bd fp V)) → Calls Tryd.prog 15 #[.pointer (some ⟨w.heap.size + 1 + 1 + 1, 0, none⟩), .int .i64 n, .int .i64 torn] V fun e w' => e = .returned (.int .i64 1) ∧ V = w') := fun V h => crash_no (rNo h) _ _
    have KL : Hid (∀ V : World, (V.cell? ⟨w.heap.size, 1, none⟩ = some (.int .i64 file) ∧ V.cell? ⟨w.heap.size, 2, none⟩ = some (.int .i64 n) ∧ V.cell? ⟨w.heap.size, 3, none⟩ = some (.int .i64 torn) ∧ V.cell? ⟨w.heap.size, 4, none⟩ = some (.slice A nb cb) ∧ V.cell? ⟨w.heap.size + 1, 0, none⟩ = some (.bool (boolAt V ⟨w.heap.size + 1, 0, none⟩)) ∧ V.frozen? ⟨w.heap.size + 1, 0, none⟩ = false ∧ Hid (Rest w D (some ⟨w.heap.size + 1 + 1 + 1, 0, none⟩) bd fp V)) → Calls Tryd.prog 16 #[.pointer (some ⟨w.heap.size + 1 + 1 + 1, 0, none⟩)] V fun e w' => e = .returned (.int .i64 0) ∧ V = w') := fun V h => loose_no (rNo h)
    have KT : Hid (∀ V : World, (V.cell? ⟨w.heap.size, 1, none⟩ = some (.int .i64 file) ∧ V.cell? ⟨w.heap.size, 2, none⟩ = some (.int .i64 n) ∧ V.cell? ⟨w.heap.size, 3, none⟩ = some (.int .i64 torn) ∧ V.cell? ⟨w.heap.size, 4, none⟩ = some (.slice A nb cb) ∧ V.cell? ⟨w.heap.size + 1, 0, none⟩ = some (.bool (boolAt V ⟨w.heap.size + 1, 0, none⟩)) ∧ V.frozen? ⟨w.heap.size + 1, 0, none⟩ = false ∧ Hid (Rest w D (some ⟨w.heap.size + 1 + 1 + 1, 0, none⟩) bd fp V)) → Calls Tryd.prog 32 #[.pointer (some ⟨w.heap.size + 1 + 1 + 1, 0, none⟩)] V fun e w' => e = .returned (.int .i64 0) ∧ V = w') := fun V h => left_no (rNo h)
    have KP : Hid (∀ V : World, (V.cell? ⟨w.heap.size, 1, none⟩ = some (.int .i64 file) ∧ V.cell? ⟨w.heap.size, 2, none⟩ = some (.int .i64 n) ∧ V.cell? ⟨w.heap.size, 3, none⟩ = some (.int .i64 torn) ∧ V.cell? ⟨w.heap.size, 4, none⟩ = some (.slice A nb cb) ∧ V.cell? ⟨w.heap.size + 1, 0, none⟩ = some (.bool (boolAt V ⟨w.heap.size + 1, 0, none⟩)) ∧ V.frozen? ⟨w.heap.size + 1, 0, none⟩ = false ∧ Hid (Rest w D (some ⟨w.heap.size + 1 + 1 + 1, 0, none⟩) bd fp V)) → Calls Tryd.prog 40 #[.pointer (some ⟨w.heap.size + 1 + 1 + 1, 0, none⟩)] V fun e w' => e = .returned (.pointer none) ∧ V = w') := fun V h => copy_no (rNo h)
    have KM : Hid (∀ V : World, (V.cell? ⟨w.heap.size, 1, none⟩ = some (.int .i64 file) ∧ V.cell? ⟨w.heap.size, 2, none⟩ = some (.int .i64 n) ∧ V.cell? ⟨w.heap.size, 3, none⟩ = some (.int .i64 torn) ∧ V.cell? ⟨w.heap.size, 4, none⟩ = some (.slice A nb cb) ∧ V.cell? ⟨w.heap.size + 1, 0, none⟩ = some (.bool (boolAt V ⟨w.heap.size + 1, 0, none⟩)) ∧ V.frozen? ⟨w.heap.size + 1, 0, none⟩ = false ∧ Hid (Rest w D (some ⟨w.heap.size + 1 + 1 + 1, 0, none⟩) bd fp V)) → Calls Tryd.prog 41 #[.pointer (some ⟨w.heap.size + 1 + 1 + 1, 0, none⟩), .pointer none] V fun e w' => e = .returned (.bool true) ∧ V = w') := fun V h => same_no (rNo h)
    have KO : Hid (∀ V : World, (V.cell? ⟨w.heap.size, 1, none⟩ = some (.int .i64 file) ∧ V.cell? ⟨w.heap.size, 2, none⟩ = some (.int .i64 n) ∧ V.cell? ⟨w.heap.size, 3, none⟩ = some (.int .i64 torn) ∧ V.cell? ⟨w.heap.size, 4, none⟩ = some (.slice A nb cb) ∧ V.cell? ⟨w.heap.size + 1, 0, none⟩ = some (.bool (boolAt V ⟨w.heap.size + 1, 0, none⟩)) ∧ V.frozen? ⟨w.heap.size + 1, 0, none⟩ = false ∧ Hid (Rest w D (some ⟨w.heap.size + 1 + 1 + 1, 0, none⟩) bd fp V)) → Calls Tryd.prog 41 #[.pointer (some ⟨bd, 0, none⟩), .pointer (some ⟨w.heap.size + 1 + 1 + 1, 0, none⟩)] V fun e w' => e = .returned (.bool false) ∧ V = w') := fun V h => same_one (rDisk h) (by decide) (rNo h)
    have KW : Hid (∀ V : World, (V.cell? ⟨w.heap.size, 1, none⟩ = some (.int .i64 file) ∧ V.cell? ⟨w.heap.size, 2, none⟩ = some (.int .i64 n) ∧ V.cell? ⟨w.heap.size, 3, none⟩ = some (.int .i64 torn) ∧ V.cell? ⟨w.heap.size, 4, none⟩ = some (.slice A nb cb) ∧ V.cell? ⟨w.heap.size + 1, 0, none⟩ = some (.bool (boolAt V ⟨w.heap.size + 1, 0, none⟩)) ∧ V.frozen? ⟨w.heap.size + 1, 0, none⟩ = false ∧ Hid (Rest w D (some ⟨w.heap.size + 1 + 1 + 1, 0, none⟩) bd fp V)) → Calls Tryd.prog 9 #[] V fun e w' => e = .returned (.bool true) ∧ Bel V w') := fun V h => dworks_any _ (rErr h)
    have KST : Hid (∀ (V : World) (b : Bool), (V.cell? ⟨w.heap.size, 1, none⟩ = some (.int .i64 file) ∧ V.cell? ⟨w.heap.size, 2, none⟩ = some (.int .i64 n) ∧ V.cell? ⟨w.heap.size, 3, none⟩ = some (.int .i64 torn) ∧ V.cell? ⟨w.heap.size, 4, none⟩ = some (.slice A nb cb) ∧ V.cell? ⟨w.heap.size + 1, 0, none⟩ = some (.bool (boolAt V ⟨w.heap.size + 1, 0, none⟩)) ∧ V.frozen? ⟨w.heap.size + 1, 0, none⟩ = false ∧ Hid (Rest w D (some ⟨w.heap.size + 1 + 1 + 1, 0, none⟩) bd fp V)) → (fun V => V.cell? ⟨w.heap.size, 1, none⟩ = some (.int .i64 file) ∧ V.cell? ⟨w.heap.size, 2, none⟩ = some (.int .i64 n) ∧ V.cell? ⟨w.heap.size, 3, none⟩ = some (.int .i64 torn) ∧ V.cell? ⟨w.heap.size, 4, none⟩ = some (.slice A nb cb) ∧ V.cell? ⟨w.heap.size + 1, 0, none⟩ = some (.bool (boolAt V ⟨w.heap.size + 1, 0, none⟩)) ∧ V.frozen? ⟨w.heap.size + 1, 0, none⟩ = false ∧ Hid (Rest w D (some ⟨w.heap.size + 1 + 1 + 1, 0, none⟩) bd fp V)) (V.setCell ⟨w.heap.size + 1, 0, none⟩ (.bool b))) := fun V b h => keepSt (fun a e => by first | (cases e; show w.heap.size + 1 + 1 + 1 ≠ _; omega) | cases e) HF4.out b h
    have KD : Hid (∀ V : World, (V.cell? ⟨w.heap.size, 1, none⟩ = some (.int .i64 file) ∧ V.cell? ⟨w.heap.size, 2, none⟩ = some (.int .i64 n) ∧ V.cell? ⟨w.heap.size, 3, none⟩ = some (.int .i64 torn) ∧ V.cell? ⟨w.heap.size, 4, none⟩ = some (.slice A nb cb) ∧ V.cell? ⟨w.heap.size + 1, 0, none⟩ = some (.bool (boolAt V ⟨w.heap.size + 1, 0, none⟩)) ∧ V.frozen? ⟨w.heap.size + 1, 0, none⟩ = false ∧ Hid (Rest w D (some ⟨w.heap.size + 1 + 1 + 1, 0, none⟩) bd fp V)) → V.heap[D]? = some (.deferred (some [])) ∧ Bel w V) := fun V h => ⟨h.2.2.2.2.2.2.out.2.2.2.1, h.2.2.2.2.2.2.out.2.2.2.2⟩
    have KE : Hid (∀ V : World, ((V.setCell ⟨w.heap.size + 1, 0, none⟩ (.bool true)).cell? ⟨w.heap.size, 1, none⟩ = some (.int .i64 file) ∧ (V.setCell ⟨w.heap.size + 1, 0, none⟩ (.bool true)).cell? ⟨w.heap.size, 2, none⟩ = some (.int .i64 n) ∧ (V.setCell ⟨w.heap.size + 1, 0, none⟩ (.bool true)).cell? ⟨w.heap.size, 3, none⟩ = some (.int .i64 torn) ∧ (V.setCell ⟨w.heap.size + 1, 0, none⟩ (.bool true)).cell? ⟨w.heap.size, 4, none⟩ = some (.slice A nb cb) ∧ (V.setCell ⟨w.heap.size + 1, 0, none⟩ (.bool true)).cell? ⟨w.heap.size + 1, 0, none⟩ = some (.bool (boolAt (V.setCell ⟨w.heap.size + 1, 0, none⟩ (.bool true)) ⟨w.heap.size + 1, 0, none⟩)) ∧ (V.setCell ⟨w.heap.size + 1, 0, none⟩ (.bool true)).frozen? ⟨w.heap.size + 1, 0, none⟩ = false ∧ Hid (Rest w D (some ⟨w.heap.size + 1 + 1 + 1, 0, none⟩) bd fp (V.setCell ⟨w.heap.size + 1, 0, none⟩ (.bool true)))) → ((V.setCell ⟨w.heap.size + 1, 0, none⟩ (.bool true)).putObj D (.deferred none)).cell? ⟨w.heap.size + 1, 0, none⟩ = some (.bool true)) := fun V h => cell_putDeferred (set_true h.2.2.2.2.1) h.2.2.2.2.2.2.out.2.2.2.1 (.deferred none)
    have hS0 : (fun V : World => V.cell? ⟨w.heap.size, 1, none⟩ = some (.int .i64 file) ∧ V.cell? ⟨w.heap.size, 2, none⟩ = some (.int .i64 n) ∧ V.cell? ⟨w.heap.size, 3, none⟩ = some (.int .i64 torn) ∧ V.cell? ⟨w.heap.size, 4, none⟩ = some (.slice A nb cb) ∧ V.cell? ⟨w.heap.size + 1, 0, none⟩ = some (.bool (boolAt V ⟨w.heap.size + 1, 0, none⟩)) ∧ V.frozen? ⟨w.heap.size + 1, 0, none⟩ = false ∧ Hid (Rest w D (some ⟨w.heap.size + 1 + 1 + 1, 0, none⟩) bd fp V)) w5 := ⟨q1, q2, q3, q4, boolAt_of q5, q6, HN5.out, HG.out.bel HB5.out, HDK5.out, HDF5.out, HB5.out⟩
    go_wp2
    simp only [List.append_eq, List.cons_append, List.nil_append]
    have hz0 : IntKind.i64.wrap 0 = 0 := by kernel_rfl
    refine wp_region_noPanic ?_
    refine wp_region_held_drew (S := (fun V : World => V.cell? ⟨w.heap.size, 1, none⟩ = some (.int .i64 file) ∧ V.cell? ⟨w.heap.size, 2, none⟩ = some (.int .i64 n) ∧ V.cell? ⟨w.heap.size, 3, none⟩ = some (.int .i64 torn) ∧ V.cell? ⟨w.heap.size, 4, none⟩ = some (.slice A nb cb) ∧ V.cell? ⟨w.heap.size + 1, 0, none⟩ = some (.bool (boolAt V ⟨w.heap.size + 1, 0, none⟩)) ∧ V.frozen? ⟨w.heap.size + 1, 0, none⟩ = false ∧ Hid (Rest w D (some ⟨w.heap.size + 1 + 1 + 1, 0, none⟩) bd fp V))) (by kernel_rfl) ?_ (fun hH0 => ?_)
    · (try dsimp only); (first | assumption | exact hS0 | exact keepR (by assumption) (by assumption) | exact keepR (Bel.drew (Bel.refl _)) (by assumption) | exact KST.out _ _ (by assumption))
    refine wpAnyH_take (i := 0) (oi := _) (v := ?v0) rfl (by kernel_rfl) (by kernel_rfl) (by kernel_rfl) ?hq0 (Or.inl ⟨by rfl, ?hy0⟩) (by assumption) ?rest0
    case hq0 => exact fun _ _ _ h => h
    case hy0 => (intro w hSw; (try dsimp only at hSw); go_simp; try with_reducible rfl)
    try simp only [Act.put, List.setIfInBounds_toArray, List.set_cons_zero, List.set_cons_succ]
    refine wpAnyH_ready (rs := [1]) (by kernel_rfl) (by simp) ?_
    refine AllReadyH.cons (o := _) rfl (fun K hK => ?_) AllReadyH.nil
    go_simp
    (first | (go_at_call 11; refine (num_any _ _).mono ?_; rintro e w2 ⟨rfl, rfl⟩) | (go_at_call 26; refine (KA.out _ (by assumption)).mono ?_; rintro e w2 ⟨rfl, hb⟩) | (go_at_call 39; refine (KC.out _ (by assumption)).mono ?_; rintro e w2 ⟨rfl, hb⟩) | (go_at_call 24; refine (KS.out _ (by assumption)).mono ?_; rintro e w2 ⟨rfl, rfl⟩) | (go_at_call 15; refine (KR.out _ (by assumption)).mono ?_; rintro e w2 ⟨rfl, rfl⟩) | (go_at_call 16; refine (KL.out _ (by assumption)).mono ?_; rintro e w2 ⟨rfl, rfl⟩) | (go_at_call 32; refine (KT.out _ (by assumption)).mono ?_; rintro e w2 ⟨rfl, rfl⟩) | (go_at_call 40; refine (KP.out _ (by assumption)).mono ?_; rintro e w2 ⟨rfl, rfl⟩) | (go_at_call 41; with_reducible refine (KM.out _ (by assumption)).mono ?_; rintro e w2 ⟨rfl, rfl⟩) | (go_at_call 41; with_reducible refine (KO.out _ (by assumption)).mono ?_; rintro e w2 ⟨rfl, rfl⟩) | (go_at_call 9; refine (KW.out _ (by assumption)).mono ?_; rintro e w2 ⟨rfl, hb⟩))
    try (go_wp2_with fail)
    refine hK.out _ _ ?_ (fun hH1 => ?_)
    · (try dsimp only); (first | assumption | exact hS0 | exact keepR (by assumption) (by assumption) | exact keepR (Bel.drew (Bel.refl _)) (by assumption) | exact KST.out _ _ (by assumption))
    clear hK K hH0
    try simp only [Act.put, List.setIfInBounds_toArray, List.set_cons_zero, List.set_cons_succ]
    refine wpAnyH_take (i := 2) (oi := _) (v := ?v2) rfl (by kernel_rfl) (by kernel_rfl) (by kernel_rfl) ?hq2 (Or.inl ⟨by rfl, ?hy2⟩) (by assumption) ?rest2
    case hq2 => exact fun _ _ _ h => h
    case hy2 => (intro w hSw; (try dsimp only at hSw); go_simp; try with_reducible rfl)
    try simp only [Act.put, List.setIfInBounds_toArray, List.set_cons_zero, List.set_cons_succ]
    refine wpAnyH_take (i := 3) (oi := _) (v := ?v3) rfl (by kernel_rfl) (by kernel_rfl) (by kernel_rfl) ?hq3 (Or.inl ⟨by rfl, ?hy3⟩) (by assumption) ?rest3
    case hq3 => exact fun _ _ _ h => h
    case hy3 => (intro w hSw; (try dsimp only at hSw); go_simp; try with_reducible rfl)
    try simp only [Act.put, List.setIfInBounds_toArray, List.set_cons_zero, List.set_cons_succ]
    refine wpAnyH_take (i := 4) (oi := _) (v := ?v4) rfl (by kernel_rfl) (by kernel_rfl) (by kernel_rfl) ?hq4 (Or.inl ⟨by rfl, ?hy4⟩) (by assumption) ?rest4
    case hq4 => exact fun _ _ _ h => h
    case hy4 => (intro w hSw; (try dsimp only at hSw); go_simp; try with_reducible rfl)
    try simp only [Act.put, List.setIfInBounds_toArray, List.set_cons_zero, List.set_cons_succ]
    refine wpAnyH_take (i := 5) (oi := _) (v := ?v5) rfl (by kernel_rfl) (by kernel_rfl) (by kernel_rfl) ?hq5 (Or.inl ⟨by rfl, ?hy5⟩) (by assumption) ?rest5
    case hq5 => exact fun _ _ _ h => h
    case hy5 => (intro w hSw; (try dsimp only at hSw); go_simp; try with_reducible rfl)
    try simp only [Act.put, List.setIfInBounds_toArray, List.set_cons_zero, List.set_cons_succ]
    refine wpAnyH_take (i := 6) (oi := _) (v := ?v6) rfl (by kernel_rfl) (by kernel_rfl) (by kernel_rfl) ?hq6 (Or.inl ⟨by rfl, ?hy6⟩) (by assumption) ?rest6
    case hq6 => exact fun _ _ _ h => h
    case hy6 => (intro w hSw; (try dsimp only at hSw); go_simp; try with_reducible rfl)
    try simp only [Act.put, List.setIfInBounds_toArray, List.set_cons_zero, List.set_cons_succ]
    refine wpAnyH_take (i := 7) (oi := _) (v := ?v7) rfl (by kernel_rfl) (by kernel_rfl) (by kernel_rfl) ?hq7 (Or.inl ⟨by rfl, ?hy7⟩) (by assumption) ?rest7
    case hq7 => exact fun _ _ _ h => h
    case hy7 => (intro w hSw; (try dsimp only at hSw); go_simp; try with_reducible rfl)
    try simp only [Act.put, List.setIfInBounds_toArray, List.set_cons_zero, List.set_cons_succ]
    refine wpAnyH_take (i := 8) (oi := _) (v := ?v8) rfl (by kernel_rfl) (by kernel_rfl) (by kernel_rfl) ?hq8 (Or.inl ⟨by rfl, ?hy8⟩) (by assumption) ?rest8
    case hq8 => exact fun _ _ _ h => h
    case hy8 => (intro w hSw; (try dsimp only at hSw); go_simp; try with_reducible rfl)
    try simp only [Act.put, List.setIfInBounds_toArray, List.set_cons_zero, List.set_cons_succ]
    refine wpAnyH_ready (rs := [9]) (by kernel_rfl) (by simp) ?_
    refine AllReadyH.cons (o := _) rfl (fun K hK => ?_) AllReadyH.nil
    go_simp
    (first | (go_at_call 11; refine (num_any _ _).mono ?_; rintro e w2 ⟨rfl, rfl⟩) | (go_at_call 26; refine (KA.out _ (by assumption)).mono ?_; rintro e w2 ⟨rfl, hb⟩) | (go_at_call 39; refine (KC.out _ (by assumption)).mono ?_; rintro e w2 ⟨rfl, hb⟩) | (go_at_call 24; refine (KS.out _ (by assumption)).mono ?_; rintro e w2 ⟨rfl, rfl⟩) | (go_at_call 15; refine (KR.out _ (by assumption)).mono ?_; rintro e w2 ⟨rfl, rfl⟩) | (go_at_call 16; refine (KL.out _ (by assumption)).mono ?_; rintro e w2 ⟨rfl, rfl⟩) | (go_at_call 32; refine (KT.out _ (by assumption)).mono ?_; rintro e w2 ⟨rfl, rfl⟩) | (go_at_call 40; refine (KP.out _ (by assumption)).mono ?_; rintro e w2 ⟨rfl, rfl⟩) | (go_at_call 41; with_reducible refine (KM.out _ (by assumption)).mono ?_; rintro e w2 ⟨rfl, rfl⟩) | (go_at_call 41; with_reducible refine (KO.out _ (by assumption)).mono ?_; rintro e w2 ⟨rfl, rfl⟩) | (go_at_call 9; refine (KW.out _ (by assumption)).mono ?_; rintro e w2 ⟨rfl, hb⟩))
    try (go_wp2_with fail)
    refine hK.out _ _ ?_ (fun hH2 => ?_)
    · (try dsimp only); (first | assumption | exact hS0 | exact keepR (by assumption) (by assumption) | exact keepR (Bel.drew (Bel.refl _)) (by assumption) | exact KST.out _ _ (by assumption))
    clear hK K hH1
    try simp only [Act.put, List.setIfInBounds_toArray, List.set_cons_zero, List.set_cons_succ]
    refine wpAnyH_ready (rs := [10]) (by kernel_rfl) (by simp) ?_
    refine AllReadyH.cons (o := _) rfl (fun K hK => ?_) AllReadyH.nil
    go_simp
    (first | (go_at_call 11; refine (num_any _ _).mono ?_; rintro e w2 ⟨rfl, rfl⟩) | (go_at_call 26; refine (KA.out _ (by assumption)).mono ?_; rintro e w2 ⟨rfl, hb⟩) | (go_at_call 39; refine (KC.out _ (by assumption)).mono ?_; rintro e w2 ⟨rfl, hb⟩) | (go_at_call 24; refine (KS.out _ (by assumption)).mono ?_; rintro e w2 ⟨rfl, rfl⟩) | (go_at_call 15; refine (KR.out _ (by assumption)).mono ?_; rintro e w2 ⟨rfl, rfl⟩) | (go_at_call 16; refine (KL.out _ (by assumption)).mono ?_; rintro e w2 ⟨rfl, rfl⟩) | (go_at_call 32; refine (KT.out _ (by assumption)).mono ?_; rintro e w2 ⟨rfl, rfl⟩) | (go_at_call 40; refine (KP.out _ (by assumption)).mono ?_; rintro e w2 ⟨rfl, rfl⟩) | (go_at_call 41; with_reducible refine (KM.out _ (by assumption)).mono ?_; rintro e w2 ⟨rfl, rfl⟩) | (go_at_call 41; with_reducible refine (KO.out _ (by assumption)).mono ?_; rintro e w2 ⟨rfl, rfl⟩) | (go_at_call 9; refine (KW.out _ (by assumption)).mono ?_; rintro e w2 ⟨rfl, hb⟩))
    try (go_wp2_with fail)
    refine hK.out _ _ ?_ (fun hH3 => ?_)
    · (try dsimp only); (first | assumption | exact hS0 | exact keepR (by assumption) (by assumption) | exact keepR (Bel.drew (Bel.refl _)) (by assumption) | exact KST.out _ _ (by assumption))
    clear hK K hH2
    try simp only [Act.put, List.setIfInBounds_toArray, List.set_cons_zero, List.set_cons_succ]
    refine wpAnyH_take (i := 11) (oi := _) (v := ?v11) rfl (by kernel_rfl) (by kernel_rfl) (by kernel_rfl) ?hq11 (Or.inl ⟨by rfl, ?hy11⟩) (by assumption) ?rest11
    case hq11 => exact fun _ _ _ h => h
    case hy11 => (intro w hSw; (try dsimp only at hSw); go_simp; try with_reducible rfl)
    try simp only [Act.put, List.setIfInBounds_toArray, List.set_cons_zero, List.set_cons_succ]
    refine wpAnyH_take (i := 12) (oi := _) (v := ?v12) rfl (by kernel_rfl) (by kernel_rfl) (by kernel_rfl) ?hq12 (Or.inl ⟨by rfl, ?hy12⟩) (by assumption) ?rest12
    case hq12 => exact fun _ _ _ h => h
    case hy12 => (intro w hSw; (try dsimp only at hSw); go_simp; try with_reducible rfl)
    try simp only [Act.put, List.setIfInBounds_toArray, List.set_cons_zero, List.set_cons_succ]
    refine wpAnyH_take (i := 13) (oi := _) (v := ?v13) rfl (by kernel_rfl) (by kernel_rfl) (by kernel_rfl) ?hq13 (Or.inl ⟨by rfl, ?hy13⟩) (by assumption) ?rest13
    case hq13 => exact fun _ _ _ h => h
    case hy13 => (intro w hSw; (try dsimp only at hSw); go_simp; try with_reducible rfl)
    try simp only [Act.put, List.setIfInBounds_toArray, List.set_cons_zero, List.set_cons_succ]
    refine wpAnyH_take (i := 14) (oi := _) (v := ?v14) rfl (by kernel_rfl) (by kernel_rfl) (by kernel_rfl) ?hq14 (Or.inl ⟨by rfl, ?hy14⟩) (by assumption) ?rest14
    case hq14 => exact fun _ _ _ h => h
    case hy14 => (intro w hSw; (try dsimp only at hSw); go_simp; try with_reducible rfl)
    try simp only [Act.put, List.setIfInBounds_toArray, List.set_cons_zero, List.set_cons_succ]
    refine wpAnyH_take (i := 15) (oi := _) (v := ?v15) rfl (by kernel_rfl) (by kernel_rfl) (by kernel_rfl) ?hq15 (Or.inl ⟨by rfl, ?hy15⟩) (by assumption) ?rest15
    case hq15 => exact fun _ _ _ h => h
    case hy15 => (intro w hSw; (try dsimp only at hSw); go_simp; try with_reducible rfl)
    try simp only [Act.put, List.setIfInBounds_toArray, List.set_cons_zero, List.set_cons_succ]
    refine wpAnyH_take (i := 16) (oi := _) (v := ?v16) rfl (by kernel_rfl) (by kernel_rfl) (by kernel_rfl) ?hq16 (Or.inl ⟨by rfl, ?hy16⟩) (by assumption) ?rest16
    case hq16 => exact fun _ _ _ h => h
    case hy16 => (intro w hSw; (try dsimp only at hSw); go_simp; try with_reducible rfl)
    try simp only [Act.put, List.setIfInBounds_toArray, List.set_cons_zero, List.set_cons_succ]
    refine wpAnyH_take (i := 17) (oi := _) (v := ?v17) rfl (by kernel_rfl) (by kernel_rfl) (by kernel_rfl) ?hq17 (Or.inl ⟨by rfl, ?hy17⟩) (by assumption) ?rest17
    case hq17 => exact fun _ _ _ h => h
    case hy17 => (intro w hSw; (try dsimp only at hSw); go_simp; try with_reducible rfl)
    try simp only [Act.put, List.setIfInBounds_toArray, List.set_cons_zero, List.set_cons_succ]
    refine wpAnyH_take (i := 18) (oi := _) (v := ?v18) rfl (by kernel_rfl) (by kernel_rfl) (by kernel_rfl) ?hq18 (Or.inl ⟨by rfl, ?hy18⟩) (by assumption) ?rest18
    case hq18 => exact fun _ _ _ h => h
    case hy18 => (intro w hSw; (try dsimp only at hSw); go_simp; try with_reducible rfl)
    try simp only [Act.put, List.setIfInBounds_toArray, List.set_cons_zero, List.set_cons_succ]
    refine wpAnyH_ready (rs := [19]) (by kernel_rfl) (by simp) ?_
    refine AllReadyH.cons (o := _) rfl (fun K hK => ?_) AllReadyH.nil
    go_simp
    (first | (go_at_call 11; refine (num_any _ _).mono ?_; rintro e w2 ⟨rfl, rfl⟩) | (go_at_call 26; refine (KA.out _ (by assumption)).mono ?_; rintro e w2 ⟨rfl, hb⟩) | (go_at_call 39; refine (KC.out _ (by assumption)).mono ?_; rintro e w2 ⟨rfl, hb⟩) | (go_at_call 24; refine (KS.out _ (by assumption)).mono ?_; rintro e w2 ⟨rfl, rfl⟩) | (go_at_call 15; refine (KR.out _ (by assumption)).mono ?_; rintro e w2 ⟨rfl, rfl⟩) | (go_at_call 16; refine (KL.out _ (by assumption)).mono ?_; rintro e w2 ⟨rfl, rfl⟩) | (go_at_call 32; refine (KT.out _ (by assumption)).mono ?_; rintro e w2 ⟨rfl, rfl⟩) | (go_at_call 40; refine (KP.out _ (by assumption)).mono ?_; rintro e w2 ⟨rfl, rfl⟩) | (go_at_call 41; with_reducible refine (KM.out _ (by assumption)).mono ?_; rintro e w2 ⟨rfl, rfl⟩) | (go_at_call 41; with_reducible refine (KO.out _ (by assumption)).mono ?_; rintro e w2 ⟨rfl, rfl⟩) | (go_at_call 9; refine (KW.out _ (by assumption)).mono ?_; rintro e w2 ⟨rfl, hb⟩))
    try (go_wp2_with fail)
    refine hK.out _ _ ?_ (fun hH4 => ?_)
    · (try dsimp only); (first | assumption | exact hS0 | exact keepR (by assumption) (by assumption) | exact keepR (Bel.drew (Bel.refl _)) (by assumption) | exact KST.out _ _ (by assumption))
    clear hK K hH3
    try simp only [Act.put, List.setIfInBounds_toArray, List.set_cons_zero, List.set_cons_succ]
    refine wpAnyH_ready (rs := [20]) (by kernel_rfl) (by simp) ?_
    refine AllReadyH.cons (o := _) rfl (fun K hK => ?_) AllReadyH.nil
    go_simp
    (first | (go_at_call 11; refine (num_any _ _).mono ?_; rintro e w2 ⟨rfl, rfl⟩) | (go_at_call 26; refine (KA.out _ (by assumption)).mono ?_; rintro e w2 ⟨rfl, hb⟩) | (go_at_call 39; refine (KC.out _ (by assumption)).mono ?_; rintro e w2 ⟨rfl, hb⟩) | (go_at_call 24; refine (KS.out _ (by assumption)).mono ?_; rintro e w2 ⟨rfl, rfl⟩) | (go_at_call 15; refine (KR.out _ (by assumption)).mono ?_; rintro e w2 ⟨rfl, rfl⟩) | (go_at_call 16; refine (KL.out _ (by assumption)).mono ?_; rintro e w2 ⟨rfl, rfl⟩) | (go_at_call 32; refine (KT.out _ (by assumption)).mono ?_; rintro e w2 ⟨rfl, rfl⟩) | (go_at_call 40; refine (KP.out _ (by assumption)).mono ?_; rintro e w2 ⟨rfl, rfl⟩) | (go_at_call 41; with_reducible refine (KM.out _ (by assumption)).mono ?_; rintro e w2 ⟨rfl, rfl⟩) | (go_at_call 41; with_reducible refine (KO.out _ (by assumption)).mono ?_; rintro e w2 ⟨rfl, rfl⟩) | (go_at_call 9; refine (KW.out _ (by assumption)).mono ?_; rintro e w2 ⟨rfl, hb⟩))
    try (go_wp2_with fail)
    refine hK.out _ _ ?_ (fun hH5 => ?_)
    · (try dsimp only); (first | assumption | exact hS0 | exact keepR (by assumption) (by assumption) | exact keepR (Bel.drew (Bel.refl _)) (by assumption) | exact KST.out _ _ (by assumption))
    clear hK K hH4
    try simp only [Act.put, List.setIfInBounds_toArray, List.set_cons_zero, List.set_cons_succ]
    refine wpAnyH_take (i := 21) (oi := _) (v := ?v21) rfl (by kernel_rfl) (by kernel_rfl) (by kernel_rfl) ?hq21 (Or.inl ⟨by rfl, ?hy21⟩) (by assumption) ?rest21
    case hq21 => exact fun _ _ _ h => h
    case hy21 => (intro w hSw; (try dsimp only at hSw); go_simp; try with_reducible rfl)
    try simp only [Act.put, List.setIfInBounds_toArray, List.set_cons_zero, List.set_cons_succ]
    refine wpAnyH_take (i := 22) (oi := _) (v := ?v22) rfl (by kernel_rfl) (by kernel_rfl) (by kernel_rfl) ?hq22 (Or.inl ⟨by rfl, ?hy22⟩) (by assumption) ?rest22
    case hq22 => exact fun _ _ _ h => h
    case hy22 => (intro w hSw; (try dsimp only at hSw); go_simp; try with_reducible rfl)
    try simp only [Act.put, List.setIfInBounds_toArray, List.set_cons_zero, List.set_cons_succ]
    refine wpAnyH_take (i := 23) (oi := _) (v := ?v23) rfl (by kernel_rfl) (by kernel_rfl) (by kernel_rfl) ?hq23 (Or.inl ⟨by rfl, ?hy23⟩) (by assumption) ?rest23
    case hq23 => exact fun _ _ _ h => h
    case hy23 => (intro w hSw; (try dsimp only at hSw); go_simp; try with_reducible rfl)
    try simp only [Act.put, List.setIfInBounds_toArray, List.set_cons_zero, List.set_cons_succ]
    refine wpAnyH_take (i := 24) (oi := _) (v := ?v24) rfl (by kernel_rfl) (by kernel_rfl) (by kernel_rfl) ?hq24 (Or.inl ⟨by rfl, ?hy24⟩) (by assumption) ?rest24
    case hq24 => exact fun _ _ _ h => h
    case hy24 => (intro w hSw; (try dsimp only at hSw); go_simp; try with_reducible rfl)
    try simp only [Act.put, List.setIfInBounds_toArray, List.set_cons_zero, List.set_cons_succ]
    refine wpAnyH_ready (rs := [25]) (by kernel_rfl) (by simp) ?_
    refine AllReadyH.cons (o := _) rfl (fun K hK => ?_) AllReadyH.nil
    go_simp
    (first | (go_at_call 11; refine (num_any _ _).mono ?_; rintro e w2 ⟨rfl, rfl⟩) | (go_at_call 26; refine (KA.out _ (by assumption)).mono ?_; rintro e w2 ⟨rfl, hb⟩) | (go_at_call 39; refine (KC.out _ (by assumption)).mono ?_; rintro e w2 ⟨rfl, hb⟩) | (go_at_call 24; refine (KS.out _ (by assumption)).mono ?_; rintro e w2 ⟨rfl, rfl⟩) | (go_at_call 15; refine (KR.out _ (by assumption)).mono ?_; rintro e w2 ⟨rfl, rfl⟩) | (go_at_call 16; refine (KL.out _ (by assumption)).mono ?_; rintro e w2 ⟨rfl, rfl⟩) | (go_at_call 32; refine (KT.out _ (by assumption)).mono ?_; rintro e w2 ⟨rfl, rfl⟩) | (go_at_call 40; refine (KP.out _ (by assumption)).mono ?_; rintro e w2 ⟨rfl, rfl⟩) | (go_at_call 41; with_reducible refine (KM.out _ (by assumption)).mono ?_; rintro e w2 ⟨rfl, rfl⟩) | (go_at_call 41; with_reducible refine (KO.out _ (by assumption)).mono ?_; rintro e w2 ⟨rfl, rfl⟩) | (go_at_call 9; refine (KW.out _ (by assumption)).mono ?_; rintro e w2 ⟨rfl, hb⟩))
    try (go_wp2_with fail)
    refine hK.out _ _ ?_ (fun hH6 => ?_)
    · (try dsimp only); (first | assumption | exact hS0 | exact keepR (by assumption) (by assumption) | exact keepR (Bel.drew (Bel.refl _)) (by assumption) | exact KST.out _ _ (by assumption))
    clear hK K hH5
    try simp only [Act.put, List.setIfInBounds_toArray, List.set_cons_zero, List.set_cons_succ]
    refine wpAnyH_ready (rs := [26]) (by kernel_rfl) (by simp) ?_
    refine AllReadyH.cons (o := _) rfl (fun K hK => ?_) AllReadyH.nil
    go_simp
    (first | (go_at_call 11; refine (num_any _ _).mono ?_; rintro e w2 ⟨rfl, rfl⟩) | (go_at_call 26; refine (KA.out _ (by assumption)).mono ?_; rintro e w2 ⟨rfl, hb⟩) | (go_at_call 39; refine (KC.out _ (by assumption)).mono ?_; rintro e w2 ⟨rfl, hb⟩) | (go_at_call 24; refine (KS.out _ (by assumption)).mono ?_; rintro e w2 ⟨rfl, rfl⟩) | (go_at_call 15; refine (KR.out _ (by assumption)).mono ?_; rintro e w2 ⟨rfl, rfl⟩) | (go_at_call 16; refine (KL.out _ (by assumption)).mono ?_; rintro e w2 ⟨rfl, rfl⟩) | (go_at_call 32; refine (KT.out _ (by assumption)).mono ?_; rintro e w2 ⟨rfl, rfl⟩) | (go_at_call 40; refine (KP.out _ (by assumption)).mono ?_; rintro e w2 ⟨rfl, rfl⟩) | (go_at_call 41; with_reducible refine (KM.out _ (by assumption)).mono ?_; rintro e w2 ⟨rfl, rfl⟩) | (go_at_call 41; with_reducible refine (KO.out _ (by assumption)).mono ?_; rintro e w2 ⟨rfl, rfl⟩) | (go_at_call 9; refine (KW.out _ (by assumption)).mono ?_; rintro e w2 ⟨rfl, hb⟩))
    try (go_wp2_with fail)
    refine hK.out _ _ ?_ (fun hH7 => ?_)
    · (try dsimp only); (first | assumption | exact hS0 | exact keepR (by assumption) (by assumption) | exact keepR (Bel.drew (Bel.refl _)) (by assumption) | exact KST.out _ _ (by assumption))
    clear hK K hH6
    try simp only [Act.put, List.setIfInBounds_toArray, List.set_cons_zero, List.set_cons_succ]
    refine wpAnyH_take (i := 27) (oi := _) (v := ?v27) rfl (by kernel_rfl) (by kernel_rfl) (by kernel_rfl) ?hq27 (Or.inl ⟨by rfl, ?hy27⟩) (by assumption) ?rest27
    case hq27 => exact fun _ _ _ h => h
    case hy27 => (intro w hSw; (try dsimp only at hSw); go_simp; try with_reducible rfl)
    try simp only [Act.put, List.setIfInBounds_toArray, List.set_cons_zero, List.set_cons_succ]
    refine wpAnyH_take (i := 28) (oi := _) (v := ?v28) rfl (by kernel_rfl) (by kernel_rfl) (by kernel_rfl) ?hq28 (Or.inl ⟨by rfl, ?hy28⟩) (by assumption) ?rest28
    case hq28 => exact fun _ _ _ h => h
    case hy28 => (intro w hSw; (try dsimp only at hSw); go_simp; try with_reducible rfl)
    try simp only [Act.put, List.setIfInBounds_toArray, List.set_cons_zero, List.set_cons_succ]
    refine wpAnyH_take (i := 29) (oi := _) (v := ?v29) rfl (by kernel_rfl) (by kernel_rfl) (by kernel_rfl) ?hq29 (Or.inl ⟨by rfl, ?hy29⟩) (by assumption) ?rest29
    case hq29 => exact fun _ _ _ h => h
    case hy29 => (intro w hSw; (try dsimp only at hSw); go_simp; try with_reducible rfl)
    try simp only [Act.put, List.setIfInBounds_toArray, List.set_cons_zero, List.set_cons_succ]
    refine wpAnyH_take (i := 30) (oi := _) (v := ?v30) rfl (by kernel_rfl) (by kernel_rfl) (by kernel_rfl) ?hq30 (Or.inl ⟨by rfl, ?hy30⟩) (by assumption) ?rest30
    case hq30 => exact fun _ _ _ h => h
    case hy30 => (intro w hSw; (try dsimp only at hSw); go_simp; try with_reducible rfl)
    try simp only [Act.put, List.setIfInBounds_toArray, List.set_cons_zero, List.set_cons_succ]
    refine wpAnyH_take (i := 31) (oi := _) (v := ?v31) rfl (by kernel_rfl) (by kernel_rfl) (by kernel_rfl) ?hq31 (Or.inl ⟨by rfl, ?hy31⟩) (by assumption) ?rest31
    case hq31 => exact fun _ _ _ h => h
    case hy31 => (intro w hSw; (try dsimp only at hSw); go_simp; try with_reducible rfl)
    try simp only [Act.put, List.setIfInBounds_toArray, List.set_cons_zero, List.set_cons_succ]
    refine wpAnyH_take (i := 32) (oi := _) (v := ?v32) rfl (by kernel_rfl) (by kernel_rfl) (by kernel_rfl) ?hq32 (Or.inl ⟨by rfl, ?hy32⟩) (by assumption) ?rest32
    case hq32 => exact fun _ _ _ h => h
    case hy32 => (intro w hSw; (try dsimp only at hSw); go_simp; try with_reducible rfl)
    try simp only [Act.put, List.setIfInBounds_toArray, List.set_cons_zero, List.set_cons_succ]
    refine wpAnyH_take (i := 33) (oi := _) (v := ?v33) rfl (by kernel_rfl) (by kernel_rfl) (by kernel_rfl) ?hq33 (Or.inl ⟨by rfl, ?hy33⟩) (by assumption) ?rest33
    case hq33 => exact fun _ _ _ h => h
    case hy33 => (intro w hSw; (try dsimp only at hSw); go_simp; try with_reducible rfl)
    try simp only [Act.put, List.setIfInBounds_toArray, List.set_cons_zero, List.set_cons_succ]
    refine wpAnyH_take (i := 34) (oi := _) (v := ?v34) rfl (by kernel_rfl) (by kernel_rfl) (by kernel_rfl) ?hq34 (Or.inl ⟨by rfl, ?hy34⟩) (by assumption) ?rest34
    case hq34 => exact fun _ _ _ h => h
    case hy34 => (intro w hSw; (try dsimp only at hSw); go_simp; try with_reducible rfl)
    try simp only [Act.put, List.setIfInBounds_toArray, List.set_cons_zero, List.set_cons_succ]
    refine wpAnyH_ready (rs := [35]) (by kernel_rfl) (by simp) ?_
    refine AllReadyH.cons (o := _) rfl (fun K hK => ?_) AllReadyH.nil
    go_simp
    (first | (go_at_call 11; refine (num_any _ _).mono ?_; rintro e w2 ⟨rfl, rfl⟩) | (go_at_call 26; refine (KA.out _ (by assumption)).mono ?_; rintro e w2 ⟨rfl, hb⟩) | (go_at_call 39; refine (KC.out _ (by assumption)).mono ?_; rintro e w2 ⟨rfl, hb⟩) | (go_at_call 24; refine (KS.out _ (by assumption)).mono ?_; rintro e w2 ⟨rfl, rfl⟩) | (go_at_call 15; refine (KR.out _ (by assumption)).mono ?_; rintro e w2 ⟨rfl, rfl⟩) | (go_at_call 16; refine (KL.out _ (by assumption)).mono ?_; rintro e w2 ⟨rfl, rfl⟩) | (go_at_call 32; refine (KT.out _ (by assumption)).mono ?_; rintro e w2 ⟨rfl, rfl⟩) | (go_at_call 40; refine (KP.out _ (by assumption)).mono ?_; rintro e w2 ⟨rfl, rfl⟩) | (go_at_call 41; with_reducible refine (KM.out _ (by assumption)).mono ?_; rintro e w2 ⟨rfl, rfl⟩) | (go_at_call 41; with_reducible refine (KO.out _ (by assumption)).mono ?_; rintro e w2 ⟨rfl, rfl⟩) | (go_at_call 9; refine (KW.out _ (by assumption)).mono ?_; rintro e w2 ⟨rfl, hb⟩))
    try (go_wp2_with fail)
    refine hK.out _ _ ?_ (fun hH8 => ?_)
    · (try dsimp only); (first | assumption | exact hS0 | exact keepR (by assumption) (by assumption) | exact keepR (Bel.drew (Bel.refl _)) (by assumption) | exact KST.out _ _ (by assumption))
    clear hK K hH7
    try simp only [Act.put, List.setIfInBounds_toArray, List.set_cons_zero, List.set_cons_succ]
    refine wpAnyH_ready (rs := [36]) (by kernel_rfl) (by simp) ?_
    refine AllReadyH.cons (o := _) rfl (fun K hK => ?_) AllReadyH.nil
    go_simp
    (first | (go_at_call 11; refine (num_any _ _).mono ?_; rintro e w2 ⟨rfl, rfl⟩) | (go_at_call 26; refine (KA.out _ (by assumption)).mono ?_; rintro e w2 ⟨rfl, hb⟩) | (go_at_call 39; refine (KC.out _ (by assumption)).mono ?_; rintro e w2 ⟨rfl, hb⟩) | (go_at_call 24; refine (KS.out _ (by assumption)).mono ?_; rintro e w2 ⟨rfl, rfl⟩) | (go_at_call 15; refine (KR.out _ (by assumption)).mono ?_; rintro e w2 ⟨rfl, rfl⟩) | (go_at_call 16; refine (KL.out _ (by assumption)).mono ?_; rintro e w2 ⟨rfl, rfl⟩) | (go_at_call 32; refine (KT.out _ (by assumption)).mono ?_; rintro e w2 ⟨rfl, rfl⟩) | (go_at_call 40; refine (KP.out _ (by assumption)).mono ?_; rintro e w2 ⟨rfl, rfl⟩) | (go_at_call 41; with_reducible refine (KM.out _ (by assumption)).mono ?_; rintro e w2 ⟨rfl, rfl⟩) | (go_at_call 41; with_reducible refine (KO.out _ (by assumption)).mono ?_; rintro e w2 ⟨rfl, rfl⟩) | (go_at_call 9; refine (KW.out _ (by assumption)).mono ?_; rintro e w2 ⟨rfl, hb⟩))
    try (go_wp2_with fail)
    refine hK.out _ _ ?_ (fun hH9 => ?_)
    · (try dsimp only); (first | assumption | exact hS0 | exact keepR (by assumption) (by assumption) | exact keepR (Bel.drew (Bel.refl _)) (by assumption) | exact KST.out _ _ (by assumption))
    clear hK K hH8
    try simp only [Act.put, List.setIfInBounds_toArray, List.set_cons_zero, List.set_cons_succ]
    refine wpAnyH_take (i := 37) (oi := _) (v := ?v37) rfl (by kernel_rfl) (by kernel_rfl) (by kernel_rfl) ?hq37 (Or.inl ⟨by rfl, ?hy37⟩) (by assumption) ?rest37
    case hq37 => exact fun _ _ _ h => h
    case hy37 => (intro w hSw; (try dsimp only at hSw); go_simp; try with_reducible rfl)
    try simp only [Act.put, List.setIfInBounds_toArray, List.set_cons_zero, List.set_cons_succ]
    refine wpAnyH_take (i := 38) (oi := _) (v := ?v38) rfl (by kernel_rfl) (by kernel_rfl) (by kernel_rfl) ?hq38 (Or.inl ⟨by rfl, ?hy38⟩) (by assumption) ?rest38
    case hq38 => exact fun _ _ _ h => h
    case hy38 => (intro w hSw; (try dsimp only at hSw); go_simp; try with_reducible rfl)
    try simp only [Act.put, List.setIfInBounds_toArray, List.set_cons_zero, List.set_cons_succ]
    refine wpAnyH_take (i := 39) (oi := _) (v := ?v39) rfl (by kernel_rfl) (by kernel_rfl) (by kernel_rfl) ?hq39 (Or.inl ⟨by rfl, ?hy39⟩) (by assumption) ?rest39
    case hq39 => exact fun _ _ _ h => h
    case hy39 => (intro w hSw; (try dsimp only at hSw); go_simp; try with_reducible rfl)
    try simp only [Act.put, List.setIfInBounds_toArray, List.set_cons_zero, List.set_cons_succ]
    refine wpAnyH_take (i := 40) (oi := _) (v := ?v40) rfl (by kernel_rfl) (by kernel_rfl) (by kernel_rfl) ?hq40 (Or.inl ⟨by rfl, ?hy40⟩) (by assumption) ?rest40
    case hq40 => exact fun _ _ _ h => h
    case hy40 => (intro w hSw; (try dsimp only at hSw); go_simp; try with_reducible rfl)
    try simp only [Act.put, List.setIfInBounds_toArray, List.set_cons_zero, List.set_cons_succ]
    refine wpAnyH_take (i := 42) (oi := _) (v := ?v42) rfl (by kernel_rfl) (by kernel_rfl) (by kernel_rfl) ?hq42 (Or.inl ⟨by rfl, ?hy42⟩) (by assumption) ?rest42
    case hq42 => exact fun _ _ _ h => h
    case hy42 => (intro w hSw; (try dsimp only at hSw); go_simp; try with_reducible rfl)
    try simp only [Act.put, List.setIfInBounds_toArray, List.set_cons_zero, List.set_cons_succ]
    refine wpAnyH_ready (rs := [41]) (by kernel_rfl) (by simp) ?_
    refine AllReadyH.cons (o := _) rfl (fun K hK => ?_) AllReadyH.nil
    go_simp
    (first | (go_at_call 11; refine (num_any _ _).mono ?_; rintro e w2 ⟨rfl, rfl⟩) | (go_at_call 26; refine (KA.out _ (by assumption)).mono ?_; rintro e w2 ⟨rfl, hb⟩) | (go_at_call 39; refine (KC.out _ (by assumption)).mono ?_; rintro e w2 ⟨rfl, hb⟩) | (go_at_call 24; refine (KS.out _ (by assumption)).mono ?_; rintro e w2 ⟨rfl, rfl⟩) | (go_at_call 15; refine (KR.out _ (by assumption)).mono ?_; rintro e w2 ⟨rfl, rfl⟩) | (go_at_call 16; refine (KL.out _ (by assumption)).mono ?_; rintro e w2 ⟨rfl, rfl⟩) | (go_at_call 32; refine (KT.out _ (by assumption)).mono ?_; rintro e w2 ⟨rfl, rfl⟩) | (go_at_call 40; refine (KP.out _ (by assumption)).mono ?_; rintro e w2 ⟨rfl, rfl⟩) | (go_at_call 41; with_reducible refine (KM.out _ (by assumption)).mono ?_; rintro e w2 ⟨rfl, rfl⟩) | (go_at_call 41; with_reducible refine (KO.out _ (by assumption)).mono ?_; rintro e w2 ⟨rfl, rfl⟩) | (go_at_call 9; refine (KW.out _ (by assumption)).mono ?_; rintro e w2 ⟨rfl, hb⟩))
    try (go_wp2_with fail)
    refine hK.out _ _ ?_ (fun hH10 => ?_)
    · (try dsimp only); (first | assumption | exact hS0 | exact keepR (by assumption) (by assumption) | exact keepR (Bel.drew (Bel.refl _)) (by assumption) | exact KST.out _ _ (by assumption))
    clear hK K hH9
    try simp only [Act.put, List.setIfInBounds_toArray, List.set_cons_zero, List.set_cons_succ]
    refine wpAnyH_ready (rs := [43]) (by kernel_rfl) (by simp) ?_
    refine AllReadyH.cons (o := _) rfl (fun K hK => ?_) AllReadyH.nil
    go_simp
    (first | (go_at_call 11; refine (num_any _ _).mono ?_; rintro e w2 ⟨rfl, rfl⟩) | (go_at_call 26; refine (KA.out _ (by assumption)).mono ?_; rintro e w2 ⟨rfl, hb⟩) | (go_at_call 39; refine (KC.out _ (by assumption)).mono ?_; rintro e w2 ⟨rfl, hb⟩) | (go_at_call 24; refine (KS.out _ (by assumption)).mono ?_; rintro e w2 ⟨rfl, rfl⟩) | (go_at_call 15; refine (KR.out _ (by assumption)).mono ?_; rintro e w2 ⟨rfl, rfl⟩) | (go_at_call 16; refine (KL.out _ (by assumption)).mono ?_; rintro e w2 ⟨rfl, rfl⟩) | (go_at_call 32; refine (KT.out _ (by assumption)).mono ?_; rintro e w2 ⟨rfl, rfl⟩) | (go_at_call 40; refine (KP.out _ (by assumption)).mono ?_; rintro e w2 ⟨rfl, rfl⟩) | (go_at_call 41; with_reducible refine (KM.out _ (by assumption)).mono ?_; rintro e w2 ⟨rfl, rfl⟩) | (go_at_call 41; with_reducible refine (KO.out _ (by assumption)).mono ?_; rintro e w2 ⟨rfl, rfl⟩) | (go_at_call 9; refine (KW.out _ (by assumption)).mono ?_; rintro e w2 ⟨rfl, hb⟩))
    try (go_wp2_with fail)
    refine hK.out _ _ ?_ (fun hH11 => ?_)
    · (try dsimp only); (first | assumption | exact hS0 | exact keepR (by assumption) (by assumption) | exact keepR (Bel.drew (Bel.refl _)) (by assumption) | exact KST.out _ _ (by assumption))
    clear hK K hH10
    try simp only [Act.put, List.setIfInBounds_toArray, List.set_cons_zero, List.set_cons_succ]
    refine wpAnyH_take (i := 44) (oi := _) (v := ?v44) rfl (by kernel_rfl) (by kernel_rfl) (by kernel_rfl) ?hq44 (Or.inl ⟨by rfl, ?hy44⟩) (by assumption) ?rest44
    case hq44 => exact fun _ _ _ h => h
    case hy44 => (intro w hSw; (try dsimp only at hSw); go_simp; try with_reducible rfl)
    try simp only [Act.put, List.setIfInBounds_toArray, List.set_cons_zero, List.set_cons_succ]
    refine wpAnyH_take (i := 45) (oi := _) (v := ?v45) rfl (by kernel_rfl) (by kernel_rfl) (by kernel_rfl) ?hq45 (Or.inl ⟨by rfl, ?hy45⟩) (by assumption) ?rest45
    case hq45 => exact fun _ _ _ h => h
    case hy45 => (intro w hSw; (try dsimp only at hSw); go_simp; try with_reducible rfl)
    try simp only [Act.put, List.setIfInBounds_toArray, List.set_cons_zero, List.set_cons_succ]
    refine wpAnyH_take (i := 46) (oi := _) (v := ?v46) rfl (by kernel_rfl) (by kernel_rfl) (by kernel_rfl) ?hq46 (Or.inl ⟨by rfl, ?hy46⟩) (by assumption) ?rest46
    case hq46 => exact fun _ _ _ h => h
    case hy46 => (intro w hSw; (try dsimp only at hSw); go_simp; try with_reducible rfl)
    try simp only [Act.put, List.setIfInBounds_toArray, List.set_cons_zero, List.set_cons_succ]
    refine wpAnyH_take (i := 47) (oi := _) (v := ?v47) rfl (by kernel_rfl) (by kernel_rfl) (by kernel_rfl) ?hq47 (Or.inl ⟨by rfl, ?hy47⟩) (by assumption) ?rest47
    case hq47 => exact fun _ _ _ h => h
    case hy47 => (intro w hSw; (try dsimp only at hSw); go_simp; try with_reducible rfl)
    try simp only [Act.put, List.setIfInBounds_toArray, List.set_cons_zero, List.set_cons_succ]
    refine wpAnyH_take (i := 48) (oi := _) (v := ?v48) rfl (by kernel_rfl) (by kernel_rfl) (by kernel_rfl) ?hq48 (Or.inl ⟨by rfl, ?hy48⟩) (by assumption) ?rest48
    case hq48 => exact fun _ _ _ h => h
    case hy48 => (intro w hSw; (try dsimp only at hSw); go_simp; try with_reducible rfl)
    try simp only [Act.put, List.setIfInBounds_toArray, List.set_cons_zero, List.set_cons_succ]
    refine wpAnyH_ready (rs := [49]) (by kernel_rfl) (by simp) ?_
    refine AllReadyH.cons (o := _) rfl (fun K hK => ?_) AllReadyH.nil
    go_simp
    (first | (go_at_call 11; refine (num_any _ _).mono ?_; rintro e w2 ⟨rfl, rfl⟩) | (go_at_call 26; refine (KA.out _ (by assumption)).mono ?_; rintro e w2 ⟨rfl, hb⟩) | (go_at_call 39; refine (KC.out _ (by assumption)).mono ?_; rintro e w2 ⟨rfl, hb⟩) | (go_at_call 24; refine (KS.out _ (by assumption)).mono ?_; rintro e w2 ⟨rfl, rfl⟩) | (go_at_call 15; refine (KR.out _ (by assumption)).mono ?_; rintro e w2 ⟨rfl, rfl⟩) | (go_at_call 16; refine (KL.out _ (by assumption)).mono ?_; rintro e w2 ⟨rfl, rfl⟩) | (go_at_call 32; refine (KT.out _ (by assumption)).mono ?_; rintro e w2 ⟨rfl, rfl⟩) | (go_at_call 40; refine (KP.out _ (by assumption)).mono ?_; rintro e w2 ⟨rfl, rfl⟩) | (go_at_call 41; with_reducible refine (KM.out _ (by assumption)).mono ?_; rintro e w2 ⟨rfl, rfl⟩) | (go_at_call 41; with_reducible refine (KO.out _ (by assumption)).mono ?_; rintro e w2 ⟨rfl, rfl⟩) | (go_at_call 9; refine (KW.out _ (by assumption)).mono ?_; rintro e w2 ⟨rfl, hb⟩))
    try (go_wp2_with fail)
    refine hK.out _ _ ?_ (fun hH12 => ?_)
    · (try dsimp only); (first | assumption | exact hS0 | exact keepR (by assumption) (by assumption) | exact keepR (Bel.drew (Bel.refl _)) (by assumption) | exact KST.out _ _ (by assumption))
    clear hK K hH11
    try simp only [Act.put, List.setIfInBounds_toArray, List.set_cons_zero, List.set_cons_succ]
    refine wpAnyH_take (i := 50) (oi := _) (v := ?v50) rfl (by kernel_rfl) (by kernel_rfl) (by kernel_rfl) ?hq50 (Or.inl ⟨by rfl, ?hy50⟩) (by assumption) ?rest50
    case hq50 => exact fun _ _ _ h => h
    case hy50 => (intro w hSw; (try dsimp only at hSw); go_simp; try with_reducible rfl)
    try simp only [Act.put, List.setIfInBounds_toArray, List.set_cons_zero, List.set_cons_succ]
    refine wpAnyH_take (i := 51) (oi := _) (v := ?v51) rfl (by kernel_rfl) (by kernel_rfl) (by kernel_rfl) ?hq51 (Or.inl ⟨by rfl, ?hy51⟩) (by assumption) ?rest51
    case hq51 => exact fun _ _ _ h => h
    case hy51 => (intro w hSw; (try dsimp only at hSw); go_simp; try with_reducible rfl)
    try simp only [Act.put, List.setIfInBounds_toArray, List.set_cons_zero, List.set_cons_succ]
    refine wpAnyH_take (i := 52) (oi := _) (v := ?v52) rfl (by kernel_rfl) (by kernel_rfl) (by kernel_rfl) ?hq52 (Or.inl ⟨by rfl, ?hy52⟩) (by assumption) ?rest52
    case hq52 => exact fun _ _ _ h => h
    case hy52 => (intro w hSw; (try dsimp only at hSw); go_simp; try with_reducible rfl)
    try simp only [Act.put, List.setIfInBounds_toArray, List.set_cons_zero, List.set_cons_succ]
    refine wpAnyH_take (i := 53) (oi := _) (v := ?v53) rfl (by kernel_rfl) (by kernel_rfl) (by kernel_rfl) ?hq53 (Or.inl ⟨by rfl, ?hy53⟩) (by assumption) ?rest53
    case hq53 => exact fun _ _ _ h => h
    case hy53 => (intro w hSw; (try dsimp only at hSw); go_simp; try with_reducible rfl)
    try simp only [Act.put, List.setIfInBounds_toArray, List.set_cons_zero, List.set_cons_succ]
    refine wpAnyH_ready (rs := [54]) (by kernel_rfl) (by simp) ?_
    refine AllReadyH.cons (o := _) rfl (fun K hK => ?_) AllReadyH.nil
    go_simp
    (first | (go_at_call 11; refine (num_any _ _).mono ?_; rintro e w2 ⟨rfl, rfl⟩) | (go_at_call 26; refine (KA.out _ (by assumption)).mono ?_; rintro e w2 ⟨rfl, hb⟩) | (go_at_call 39; refine (KC.out _ (by assumption)).mono ?_; rintro e w2 ⟨rfl, hb⟩) | (go_at_call 24; refine (KS.out _ (by assumption)).mono ?_; rintro e w2 ⟨rfl, rfl⟩) | (go_at_call 15; refine (KR.out _ (by assumption)).mono ?_; rintro e w2 ⟨rfl, rfl⟩) | (go_at_call 16; refine (KL.out _ (by assumption)).mono ?_; rintro e w2 ⟨rfl, rfl⟩) | (go_at_call 32; refine (KT.out _ (by assumption)).mono ?_; rintro e w2 ⟨rfl, rfl⟩) | (go_at_call 40; refine (KP.out _ (by assumption)).mono ?_; rintro e w2 ⟨rfl, rfl⟩) | (go_at_call 41; with_reducible refine (KM.out _ (by assumption)).mono ?_; rintro e w2 ⟨rfl, rfl⟩) | (go_at_call 41; with_reducible refine (KO.out _ (by assumption)).mono ?_; rintro e w2 ⟨rfl, rfl⟩) | (go_at_call 9; refine (KW.out _ (by assumption)).mono ?_; rintro e w2 ⟨rfl, hb⟩))
    try (go_wp2_with fail)
    refine hK.out _ _ ?_ (fun hH13 => ?_)
    · (try dsimp only); (first | assumption | exact hS0 | exact keepR (by assumption) (by assumption) | exact keepR (Bel.drew (Bel.refl _)) (by assumption) | exact KST.out _ _ (by assumption))
    clear hK K hH12
    try simp only [Act.put, List.setIfInBounds_toArray, List.set_cons_zero, List.set_cons_succ]
    refine wpAnyH_take (i := 55) (oi := _) (v := ?v55) rfl (by kernel_rfl) (by kernel_rfl) (by kernel_rfl) ?hq55 (Or.inl ⟨by rfl, ?hy55⟩) (by assumption) ?rest55
    case hq55 => exact fun _ _ _ h => h
    case hy55 => (intro w hSw; (try dsimp only at hSw); go_simp; try with_reducible rfl)
    try simp only [Act.put, List.setIfInBounds_toArray, List.set_cons_zero, List.set_cons_succ]
    refine wpAnyH_take (i := 56) (oi := _) (v := ?v56) rfl (by kernel_rfl) (by kernel_rfl) (by kernel_rfl) ?hq56 (Or.inl ⟨by rfl, ?hy56⟩) (by assumption) ?rest56
    case hq56 => exact fun _ _ _ h => h
    case hy56 => (intro w hSw; (try dsimp only at hSw); go_simp; try with_reducible rfl)
    try simp only [Act.put, List.setIfInBounds_toArray, List.set_cons_zero, List.set_cons_succ]
    refine wpAnyH_take (i := 57) (oi := _) (v := ?v57) rfl (by kernel_rfl) (by kernel_rfl) (by kernel_rfl) ?hq57 (Or.inl ⟨by rfl, ?hy57⟩) (by assumption) ?rest57
    case hq57 => exact fun _ _ _ h => h
    case hy57 => (intro w hSw; (try dsimp only at hSw); go_simp; try with_reducible rfl)
    try simp only [Act.put, List.setIfInBounds_toArray, List.set_cons_zero, List.set_cons_succ]
    refine wpAnyH_take (i := 58) (oi := _) (v := ?v58) rfl (by kernel_rfl) (by kernel_rfl) (by kernel_rfl) ?hq58 (Or.inl ⟨by rfl, ?hy58⟩) (by assumption) ?rest58
    case hq58 => exact fun _ _ _ h => h
    case hy58 => (intro w hSw; (try dsimp only at hSw); go_simp; try with_reducible rfl)
    try simp only [Act.put, List.setIfInBounds_toArray, List.set_cons_zero, List.set_cons_succ]
    refine wpAnyH_ready (rs := [59]) (by kernel_rfl) (by simp) ?_
    refine AllReadyH.cons (o := _) rfl (fun K hK => ?_) AllReadyH.nil
    go_simp
    (first | (go_at_call 11; refine (num_any _ _).mono ?_; rintro e w2 ⟨rfl, rfl⟩) | (go_at_call 26; refine (KA.out _ (by assumption)).mono ?_; rintro e w2 ⟨rfl, hb⟩) | (go_at_call 39; refine (KC.out _ (by assumption)).mono ?_; rintro e w2 ⟨rfl, hb⟩) | (go_at_call 24; refine (KS.out _ (by assumption)).mono ?_; rintro e w2 ⟨rfl, rfl⟩) | (go_at_call 15; refine (KR.out _ (by assumption)).mono ?_; rintro e w2 ⟨rfl, rfl⟩) | (go_at_call 16; refine (KL.out _ (by assumption)).mono ?_; rintro e w2 ⟨rfl, rfl⟩) | (go_at_call 32; refine (KT.out _ (by assumption)).mono ?_; rintro e w2 ⟨rfl, rfl⟩) | (go_at_call 40; refine (KP.out _ (by assumption)).mono ?_; rintro e w2 ⟨rfl, rfl⟩) | (go_at_call 41; with_reducible refine (KM.out _ (by assumption)).mono ?_; rintro e w2 ⟨rfl, rfl⟩) | (go_at_call 41; with_reducible refine (KO.out _ (by assumption)).mono ?_; rintro e w2 ⟨rfl, rfl⟩) | (go_at_call 9; refine (KW.out _ (by assumption)).mono ?_; rintro e w2 ⟨rfl, hb⟩))
    try (go_wp2_with fail)
    refine hK.out _ _ ?_ (fun hH14 => ?_)
    · (try dsimp only); (first | assumption | exact hS0 | exact keepR (by assumption) (by assumption) | exact keepR (Bel.drew (Bel.refl _)) (by assumption) | exact KST.out _ _ (by assumption))
    clear hK K hH13
    try simp only [Act.put, List.setIfInBounds_toArray, List.set_cons_zero, List.set_cons_succ]
    refine wpAnyH_take (i := 60) (oi := _) (v := ?v60) rfl (by kernel_rfl) (by kernel_rfl) (by kernel_rfl) ?hq60 (Or.inl ⟨by rfl, ?hy60⟩) (by assumption) ?rest60
    case hq60 => exact fun _ _ _ h => h
    case hy60 => (intro w hSw; (try dsimp only at hSw); go_simp; try with_reducible rfl)
    try simp only [Act.put, List.setIfInBounds_toArray, List.set_cons_zero, List.set_cons_succ]
    refine wpAnyH_take (i := 61) (oi := _) (v := ?v61) rfl (by kernel_rfl) (by kernel_rfl) (by kernel_rfl) ?hq61 (Or.inl ⟨by rfl, ?hy61⟩) (by assumption) ?rest61
    case hq61 => exact fun _ _ _ h => h
    case hy61 => (intro w hSw; (try dsimp only at hSw); go_simp; try with_reducible rfl)
    try simp only [Act.put, List.setIfInBounds_toArray, List.set_cons_zero, List.set_cons_succ]
    refine wpAnyH_take (i := 62) (oi := _) (v := ?v62) rfl (by kernel_rfl) (by kernel_rfl) (by kernel_rfl) ?hq62 (Or.inl ⟨by rfl, ?hy62⟩) (by assumption) ?rest62
    case hq62 => exact fun _ _ _ h => h
    case hy62 => (intro w hSw; (try dsimp only at hSw); go_simp; try with_reducible rfl)
    try simp only [Act.put, List.setIfInBounds_toArray, List.set_cons_zero, List.set_cons_succ]
    refine wpAnyH_take (i := 63) (oi := _) (v := ?v63) rfl (by kernel_rfl) (by kernel_rfl) (by kernel_rfl) ?hq63 (Or.inl ⟨by rfl, ?hy63⟩) (by assumption) ?rest63
    case hq63 => exact fun _ _ _ h => h
    case hy63 => (intro w hSw; (try dsimp only at hSw); go_simp; try with_reducible rfl)
    try simp only [Act.put, List.setIfInBounds_toArray, List.set_cons_zero, List.set_cons_succ]
    refine wpAnyH_ready (rs := [64]) (by kernel_rfl) (by simp) ?_
    refine AllReadyH.cons (o := _) rfl (fun K hK => ?_) AllReadyH.nil
    go_simp
    (first | (go_at_call 11; refine (num_any _ _).mono ?_; rintro e w2 ⟨rfl, rfl⟩) | (go_at_call 26; refine (KA.out _ (by assumption)).mono ?_; rintro e w2 ⟨rfl, hb⟩) | (go_at_call 39; refine (KC.out _ (by assumption)).mono ?_; rintro e w2 ⟨rfl, hb⟩) | (go_at_call 24; refine (KS.out _ (by assumption)).mono ?_; rintro e w2 ⟨rfl, rfl⟩) | (go_at_call 15; refine (KR.out _ (by assumption)).mono ?_; rintro e w2 ⟨rfl, rfl⟩) | (go_at_call 16; refine (KL.out _ (by assumption)).mono ?_; rintro e w2 ⟨rfl, rfl⟩) | (go_at_call 32; refine (KT.out _ (by assumption)).mono ?_; rintro e w2 ⟨rfl, rfl⟩) | (go_at_call 40; refine (KP.out _ (by assumption)).mono ?_; rintro e w2 ⟨rfl, rfl⟩) | (go_at_call 41; with_reducible refine (KM.out _ (by assumption)).mono ?_; rintro e w2 ⟨rfl, rfl⟩) | (go_at_call 41; with_reducible refine (KO.out _ (by assumption)).mono ?_; rintro e w2 ⟨rfl, rfl⟩) | (go_at_call 9; refine (KW.out _ (by assumption)).mono ?_; rintro e w2 ⟨rfl, hb⟩))
    try (go_wp2_with fail)
    refine hK.out _ _ ?_ (fun hH15 => ?_)
    · (try dsimp only); (first | assumption | exact hS0 | exact keepR (by assumption) (by assumption) | exact keepR (Bel.drew (Bel.refl _)) (by assumption) | exact KST.out _ _ (by assumption))
    clear hK K hH14
    try simp only [Act.put, List.setIfInBounds_toArray, List.set_cons_zero, List.set_cons_succ]
    refine wpAnyH_take (i := 65) (oi := _) (v := ?v65) rfl (by kernel_rfl) (by kernel_rfl) (by kernel_rfl) ?hq65 (Or.inl ⟨by rfl, ?hy65⟩) (by assumption) ?rest65
    case hq65 => exact fun _ _ _ h => h
    case hy65 => (intro w hSw; (try dsimp only at hSw); go_simp; try with_reducible rfl)
    try simp only [Act.put, List.setIfInBounds_toArray, List.set_cons_zero, List.set_cons_succ]
    refine wpAnyH_take (i := 66) (oi := _) (v := ?v66) rfl (by kernel_rfl) (by kernel_rfl) (by kernel_rfl) ?hq66 (Or.inl ⟨by rfl, ?hy66⟩) (by assumption) ?rest66
    case hq66 => exact fun _ _ _ h => h
    case hy66 => (intro w hSw; (try dsimp only at hSw); go_simp; try with_reducible rfl)
    try simp only [Act.put, List.setIfInBounds_toArray, List.set_cons_zero, List.set_cons_succ]
    refine wpAnyH_take (i := 67) (oi := _) (v := ?v67) rfl (by kernel_rfl) (by kernel_rfl) (by kernel_rfl) ?hq67 (Or.inl ⟨by rfl, ?hy67⟩) (by assumption) ?rest67
    case hq67 => exact fun _ _ _ h => h
    case hy67 => (intro w hSw; (try dsimp only at hSw); go_simp; try with_reducible rfl)
    try simp only [Act.put, List.setIfInBounds_toArray, List.set_cons_zero, List.set_cons_succ]
    refine wpAnyH_take (i := 68) (oi := _) (v := ?v68) rfl (by kernel_rfl) (by kernel_rfl) (by kernel_rfl) ?hq68 (Or.inl ⟨by rfl, ?hy68⟩) (by assumption) ?rest68
    case hq68 => exact fun _ _ _ h => h
    case hy68 => (intro w hSw; (try dsimp only at hSw); go_simp; try with_reducible rfl)
    try simp only [Act.put, List.setIfInBounds_toArray, List.set_cons_zero, List.set_cons_succ]
    refine wpAnyH_take (i := 71) (oi := _) (v := ?v71) rfl (by kernel_rfl) (by kernel_rfl) (by kernel_rfl) ?hq71 (Or.inl ⟨by rfl, ?hy71⟩) (by assumption) ?rest71
    case hq71 => exact fun _ _ _ h => h
    case hy71 => (intro w hSw; (try dsimp only at hSw); go_simp; try with_reducible rfl)
    try simp only [Act.put, List.setIfInBounds_toArray, List.set_cons_zero, List.set_cons_succ]
    refine wpAnyH_take (i := 72) (oi := _) (v := ?v72) rfl (by kernel_rfl) (by kernel_rfl) (by kernel_rfl) ?hq72 (Or.inl ⟨by rfl, ?hy72⟩) (by assumption) ?rest72
    case hq72 => exact fun _ _ _ h => h
    case hy72 => (intro w hSw; (try dsimp only at hSw); go_simp; try with_reducible rfl)
    try simp only [Act.put, List.setIfInBounds_toArray, List.set_cons_zero, List.set_cons_succ]
    refine wpAnyH_take (i := 73) (oi := _) (v := ?v73) rfl (by kernel_rfl) (by kernel_rfl) (by kernel_rfl) ?hq73 (Or.inl ⟨by rfl, ?hy73⟩) (by assumption) ?rest73
    case hq73 => exact fun _ _ _ h => h
    case hy73 => (intro w hSw; (try dsimp only at hSw); go_simp; try with_reducible rfl)
    try simp only [Act.put, List.setIfInBounds_toArray, List.set_cons_zero, List.set_cons_succ]
    refine wpAnyH_ready (rs := [69]) (by kernel_rfl) (by simp) ?_
    refine AllReadyH.cons (o := _) rfl (fun K hK => ?_) AllReadyH.nil
    go_simp
    (first | (go_at_call 11; refine (num_any _ _).mono ?_; rintro e w2 ⟨rfl, rfl⟩) | (go_at_call 26; refine (KA.out _ (by assumption)).mono ?_; rintro e w2 ⟨rfl, hb⟩) | (go_at_call 39; refine (KC.out _ (by assumption)).mono ?_; rintro e w2 ⟨rfl, hb⟩) | (go_at_call 24; refine (KS.out _ (by assumption)).mono ?_; rintro e w2 ⟨rfl, rfl⟩) | (go_at_call 15; refine (KR.out _ (by assumption)).mono ?_; rintro e w2 ⟨rfl, rfl⟩) | (go_at_call 16; refine (KL.out _ (by assumption)).mono ?_; rintro e w2 ⟨rfl, rfl⟩) | (go_at_call 32; refine (KT.out _ (by assumption)).mono ?_; rintro e w2 ⟨rfl, rfl⟩) | (go_at_call 40; refine (KP.out _ (by assumption)).mono ?_; rintro e w2 ⟨rfl, rfl⟩) | (go_at_call 41; with_reducible refine (KM.out _ (by assumption)).mono ?_; rintro e w2 ⟨rfl, rfl⟩) | (go_at_call 41; with_reducible refine (KO.out _ (by assumption)).mono ?_; rintro e w2 ⟨rfl, rfl⟩) | (go_at_call 9; refine (KW.out _ (by assumption)).mono ?_; rintro e w2 ⟨rfl, hb⟩))
    try (go_wp2_with fail)
    refine hK.out _ _ ?_ (fun hH16 => ?_)
    · (try dsimp only); (first | assumption | exact hS0 | exact keepR (by assumption) (by assumption) | exact keepR (Bel.drew (Bel.refl _)) (by assumption) | exact KST.out _ _ (by assumption))
    clear hK K hH15
    try simp only [Act.put, List.setIfInBounds_toArray, List.set_cons_zero, List.set_cons_succ]
    refine wpAnyH_take (i := 70) (oi := _) (v := ?v70) rfl (by kernel_rfl) (by kernel_rfl) (by kernel_rfl) ?hq70 (Or.inl ⟨by rfl, ?hy70⟩) (by assumption) ?rest70
    case hq70 => exact fun _ _ _ h => h
    case hy70 => (intro w hSw; (try dsimp only at hSw); go_simp; try with_reducible rfl)
    try simp only [Act.put, List.setIfInBounds_toArray, List.set_cons_zero, List.set_cons_succ]
    refine wpAnyH_take (i := 74) (oi := _) (v := ?v74) rfl (by kernel_rfl) (by kernel_rfl) (by kernel_rfl) ?hq74 (Or.inl ⟨by rfl, ?hy74⟩) (by assumption) ?rest74
    case hq74 => exact fun _ _ _ h => h
    case hy74 => (intro w hSw; (try dsimp only at hSw); go_simp; try with_reducible rfl)
    try simp only [Act.put, List.setIfInBounds_toArray, List.set_cons_zero, List.set_cons_succ]
    refine wpAnyH_take (i := 75) (oi := _) (v := undef) rfl (by kernel_rfl) (by kernel_rfl) (by kernel_rfl) ?hq75 (Or.inr ⟨by rfl, rfl⟩) (by assumption) ?rest75
    case hq75 => exact fun _ _ _ h => h
    try simp only [Act.put, List.setIfInBounds_toArray, List.set_cons_zero, List.set_cons_succ]
    refine wpAnyH_take (i := 76) (oi := _) (v := undef) rfl (by kernel_rfl) (by kernel_rfl) (by kernel_rfl) ?hq76 (Or.inr ⟨by rfl, rfl⟩) (by assumption) ?rest76
    case hq76 => exact fun _ _ _ h => h
    try simp only [Act.put, List.setIfInBounds_toArray, List.set_cons_zero, List.set_cons_succ]
    refine wpAnyH_take (i := 77) (oi := _) (v := undef) rfl (by kernel_rfl) (by kernel_rfl) (by kernel_rfl) ?hq77 (Or.inr ⟨by rfl, rfl⟩) (by assumption) ?rest77
    case hq77 => exact fun _ _ _ h => h
    try simp only [Act.put, List.setIfInBounds_toArray, List.set_cons_zero, List.set_cons_succ]
    refine wpAnyH_take (i := 78) (oi := _) (v := ?v78) rfl (by kernel_rfl) (by kernel_rfl) (by kernel_rfl) ?hq78 (Or.inl ⟨by rfl, ?hy78⟩) (by assumption) ?rest78
    case hq78 => exact fun _ _ _ h => h
    case hy78 => (intro w hSw; (try dsimp only at hSw); go_simp; try with_reducible rfl)
    try simp only [Act.put, List.setIfInBounds_toArray, List.set_cons_zero, List.set_cons_succ]
    refine wpAnyH_take (i := 79) (oi := _) (v := ?v79) rfl (by kernel_rfl) (by kernel_rfl) (by kernel_rfl) ?hq79 (Or.inl ⟨by rfl, ?hy79⟩) (by assumption) ?rest79
    case hq79 => exact fun _ _ _ h => h
    case hy79 => (intro w hSw; (try dsimp only at hSw); go_simp; try with_reducible rfl)
    try simp only [Act.put, List.setIfInBounds_toArray, List.set_cons_zero, List.set_cons_succ]
    refine wpAnyH_take (i := 80) (oi := _) (v := ?v80) rfl (by kernel_rfl) (by kernel_rfl) (by kernel_rfl) ?hq80 (Or.inl ⟨by rfl, ?hy80⟩) (by assumption) ?rest80
    case hq80 => exact fun _ _ _ h => h
    case hy80 => (intro w hSw; (try dsimp only at hSw); go_simp; try with_reducible rfl)
    try simp only [Act.put, List.setIfInBounds_toArray, List.set_cons_zero, List.set_cons_succ]
    refine wpAnyH_take (i := 81) (oi := _) (v := ?v81) rfl (by kernel_rfl) (by kernel_rfl) (by kernel_rfl) ?hq81 (Or.inl ⟨by rfl, ?hy81⟩) (by assumption) ?rest81
    case hq81 => exact fun _ _ _ h => h
    case hy81 => (intro w hSw; (try dsimp only at hSw); go_simp; try with_reducible rfl)
    try simp only [Act.put, List.setIfInBounds_toArray, List.set_cons_zero, List.set_cons_succ]
    refine wpAnyH_ready (rs := [82]) (by kernel_rfl) (by simp) ?_
    refine AllReadyH.cons (o := _) rfl (fun K hK => ?_) AllReadyH.nil
    go_simp
    (first | (go_at_call 11; refine (num_any _ _).mono ?_; rintro e w2 ⟨rfl, rfl⟩) | (go_at_call 26; refine (KA.out _ (by assumption)).mono ?_; rintro e w2 ⟨rfl, hb⟩) | (go_at_call 39; refine (KC.out _ (by assumption)).mono ?_; rintro e w2 ⟨rfl, hb⟩) | (go_at_call 24; refine (KS.out _ (by assumption)).mono ?_; rintro e w2 ⟨rfl, rfl⟩) | (go_at_call 15; refine (KR.out _ (by assumption)).mono ?_; rintro e w2 ⟨rfl, rfl⟩) | (go_at_call 16; refine (KL.out _ (by assumption)).mono ?_; rintro e w2 ⟨rfl, rfl⟩) | (go_at_call 32; refine (KT.out _ (by assumption)).mono ?_; rintro e w2 ⟨rfl, rfl⟩) | (go_at_call 40; refine (KP.out _ (by assumption)).mono ?_; rintro e w2 ⟨rfl, rfl⟩) | (go_at_call 41; with_reducible refine (KM.out _ (by assumption)).mono ?_; rintro e w2 ⟨rfl, rfl⟩) | (go_at_call 41; with_reducible refine (KO.out _ (by assumption)).mono ?_; rintro e w2 ⟨rfl, rfl⟩) | (go_at_call 9; refine (KW.out _ (by assumption)).mono ?_; rintro e w2 ⟨rfl, hb⟩))
    try (go_wp2_with fail)
    refine hK.out _ _ ?_ (fun hH17 => ?_)
    · (try dsimp only); (first | assumption | exact hS0 | exact keepR (by assumption) (by assumption) | exact keepR (Bel.drew (Bel.refl _)) (by assumption) | exact KST.out _ _ (by assumption))
    clear hK K hH16
    try simp only [Act.put, List.setIfInBounds_toArray, List.set_cons_zero, List.set_cons_succ]
    refine wpAnyH_take (i := 83) (oi := _) (v := ?v83) rfl (by kernel_rfl) (by kernel_rfl) (by kernel_rfl) ?hq83 (Or.inl ⟨by rfl, ?hy83⟩) (by assumption) ?rest83
    case hq83 => exact fun _ _ _ h => h
    case hy83 => (intro w hSw; (try dsimp only at hSw); go_simp; try with_reducible rfl)
    try simp only [Act.put, List.setIfInBounds_toArray, List.set_cons_zero, List.set_cons_succ]
    refine wpAnyH_ready (rs := [84]) (by kernel_rfl) (by simp) ?_
    refine AllReadyH.cons (o := _) rfl (fun K hK => ?_) AllReadyH.nil
    go_simp
    refine hK.out _ _ ?_ (fun hH18 => ?_)
    · (try dsimp only); (first | assumption | exact hS0 | exact keepR (by assumption) (by assumption) | exact keepR (Bel.drew (Bel.refl _)) (by assumption) | exact KST.out _ _ (by assumption))
    clear hK K hH17
    try simp only [Act.put, List.setIfInBounds_toArray, List.set_cons_zero, List.set_cons_succ]
    refine wpAnyH_done (by kernel_rfl) ?_ _
    refine NoPanic.normal ?_
    go_wp2
    refine leavesM_collected (D := D) (KD.out _ (by assumption)).1 (leavesM_nil ?_ ⟨rfl, (KD.out _ (by assumption)).2.putObj HDD.out _⟩)
    have hc2 := KE.out _ (by assumption)
    simp [results, Tryd.results7, go_sem, hc2]
  · intro D c pre x rest U hD hx
    simp at hx
end Go.Proofs.YthmigmiojifnkaaDoor
