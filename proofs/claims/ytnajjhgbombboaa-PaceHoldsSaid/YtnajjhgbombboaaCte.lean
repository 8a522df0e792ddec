/-
  slices.Sorted(maps.Keys(parts)): the five keys, in order. (The three layings were printed by gen/laytext.py.)
-/
import Derived.Test.YtnajjhgbombboaaCtd
import Derived.Shelf.SlIter.Nil
import Derived.Shelf.SortM.Plain
import Derived.Shelf.SortM.SortNone
import Derived.Ground.GgzProg
import Derived.Ground.SlgmProg
set_option linter.unusedVariables false
set_option linter.unusedSimpArgs false
set_option linter.unusedVariables false
set_option linter.unusedSimpArgs false
namespace Go.Proofs.Ytnajjhgbombboaa
open Go.RowKit Go.Maps Go.Sort Go.Shelf

def ctKeysL_ren : Go.Shelf.Ren := ⟨fun | 7 => 20 | 10 => 44 | n => n, fun | 23 => 69 | 26 => 9 | 3 => 78 | 28 => 73 | 0 => 0 | 27 => 72 | 33 => 103 | 4 => 4 | n => n, fun | n => n⟩
theorem ctKeysL : Go.Proofs.SlLaysZ.n7 Try.prog ctKeysL_ren := {
  mixed := by kernel_rfl
  f7 := ⟨Try.f20.name, by decide, Try.func20.trans (congrArg some (by kernel_rfl))⟩
  f10 := ⟨Try.f44.name, by decide, Try.func44.trans (congrArg some (by kernel_rfl))⟩
  t0 := Try.underlying0
  a0 := Try.isAgg0
  z0 := Try.sizeOf0
  v0 := Try.zeroValue0
  t4 := Try.underlying4
  a4 := Try.isAgg4
  z4 := Try.sizeOf4
  v4 := Try.zeroValue4
  t23 := Try.underlying69
  a23 := Try.isAgg69
  z23 := Try.sizeOf69
  v23 := Try.zeroValue69
  t26 := Try.underlying9
  a26 := Try.isAgg9
  z26 := Try.sizeOf9
  v26 := Try.zeroValue9
  t27 := Try.underlying72
  a27 := Try.isAgg72
  z27 := Try.sizeOf72
  v27 := Try.zeroValue72
  t28 := Try.underlying73
  a28 := Try.isAgg73
  z28 := Try.sizeOf73
  v28 := Try.zeroValue73
  t33 := Try.underlying103
  a33 := Try.isAgg103
  z33 := Try.sizeOf103
  v33 := Try.zeroValue103 }
def ctSortedL_ren : Go.Shelf.Ren := ⟨fun | 6 => 19 | 8 => 42 | 9 => 43 | 11 => 48 | 13 => 50 | 12 => 49 | 23 => 63 | 24 => 64 | 14 => 54 | 15 => 55 | 16 => 56 | 17 => 57 | 18 => 58 | 19 => 59 | 20 => 60 | 21 => 61 | 22 => 62 | 25 => 66 | 26 => 67 | 27 => 68 | 28 => 69 | 29 => 70 | 30 => 71 | 31 => 72 | n => n, fun | 26 => 9 | 28 => 73 | 24 => 26 | 0 => 0 | 3 => 3 | 37 => 127 | 48 => 141 | 50 => 82 | 4 => 4 | 40 => 134 | 39 => 133 | 45 => 47 | 5 => 5 | 9 => 9 | 51 => 142 | 55 => 100 | 57 => 146 | 58 => 147 | 33 => 103 | n => n, fun | n => n⟩
theorem ctSortedL : Go.Proofs.SlLaysZ.n6 Try.prog ctSortedL_ren := {
  mixed := by kernel_rfl
  f6 := ⟨Try.f19.name, by decide, Try.func19.trans (congrArg some (by kernel_rfl))⟩
  f8 := ⟨Try.f42.name, by decide, Try.func42.trans (congrArg some (by kernel_rfl))⟩
  f11 := ⟨Try.f48.name, by decide, Try.func48.trans (congrArg some (by kernel_rfl))⟩
  t0 := Try.underlying0
  a0 := Try.isAgg0
  z0 := Try.sizeOf0
  v0 := Try.zeroValue0
  t24 := Try.underlying26
  a24 := Try.isAgg26
  z24 := Try.sizeOf26
  v24 := Try.zeroValue26
  t26 := Try.underlying9
  a26 := Try.isAgg9
  z26 := Try.sizeOf9
  v26 := Try.zeroValue9
  t28 := Try.underlying73
  a28 := Try.isAgg73
  z28 := Try.sizeOf73
  v28 := Try.zeroValue73
  i26 := by kernel_rfl }
def ctSortL_ren : Go.Shelf.Ren := ⟨fun | 6 => 43 | 8 => 50 | 9 => 49 | 19 => 63 | 20 => 64 | 21 => 54 | 22 => 55 | 23 => 56 | 24 => 57 | 25 => 58 | 26 => 59 | 27 => 60 | 28 => 61 | 29 => 62 | 36 => 66 | 31 => 67 | 32 => 68 | 37 => 69 | 38 => 70 | 39 => 71 | 41 => 72 | n => n, fun | 27 => 26 | 29 => 9 | 3 => 3 | 32 => 127 | 26 => 26 | 0 => 0 | 44 => 141 | 46 => 82 | 4 => 4 | 36 => 134 | 35 => 133 | 41 => 47 | 5 => 5 | 9 => 9 | 53 => 142 | 57 => 100 | 63 => 146 | 64 => 147 | n => n, fun | n => n⟩
theorem ctSortL : Go.Proofs.SlLaysM.n6 Try.prog ctSortL_ren := {
  mixed := by kernel_rfl
  f6 := ⟨Try.f43.name, by decide, Try.func43.trans (congrArg some (by kernel_rfl))⟩
  f8 := Try.func50.trans (congrArg some (by kernel_rfl))
  f9 := ⟨Try.f49.name, by decide, Try.func49.trans (congrArg some (by kernel_rfl))⟩
  f19 := Try.func63.trans (congrArg some (by kernel_rfl))
  f20 := Try.func64.trans (congrArg some (by kernel_rfl))
  f21 := ⟨Try.f54.name, by decide, Try.func54.trans (congrArg some (by kernel_rfl))⟩
  f22 := ⟨Try.f55.name, by decide, Try.func55.trans (congrArg some (by kernel_rfl))⟩
  f23 := ⟨Try.f56.name, by decide, Try.func56.trans (congrArg some (by kernel_rfl))⟩
  f24 := ⟨Try.f57.name, by decide, Try.func57.trans (congrArg some (by kernel_rfl))⟩
  f25 := ⟨Try.f58.name, by decide, Try.func58.trans (congrArg some (by kernel_rfl))⟩
  f26 := ⟨Try.f59.name, by decide, Try.func59.trans (congrArg some (by kernel_rfl))⟩
  f27 := ⟨Try.f60.name, by decide, Try.func60.trans (congrArg some (by kernel_rfl))⟩
  f28 := ⟨Try.f61.name, by decide, Try.func61.trans (congrArg some (by kernel_rfl))⟩
  f29 := ⟨Try.f62.name, by decide, Try.func62.trans (congrArg some (by kernel_rfl))⟩
  f31 := Try.func67.trans (congrArg some (by kernel_rfl))
  f32 := Try.func68.trans (congrArg some (by kernel_rfl))
  f36 := ⟨Try.f66.name, by decide, Try.func66.trans (congrArg some (by kernel_rfl))⟩
  f37 := ⟨Try.f69.name, by decide, Try.func69.trans (congrArg some (by kernel_rfl))⟩
  f38 := ⟨Try.f70.name, by decide, Try.func70.trans (congrArg some (by kernel_rfl))⟩
  f39 := ⟨Try.f71.name, by decide, Try.func71.trans (congrArg some (by kernel_rfl))⟩
  f41 := ⟨Try.f72.name, by decide, Try.func72.trans (congrArg some (by kernel_rfl))⟩
  t0 := Try.underlying0
  a0 := Try.isAgg0
  z0 := Try.sizeOf0
  v0 := Try.zeroValue0
  t3 := Try.underlying3
  a3 := Try.isAgg3
  z3 := Try.sizeOf3
  v3 := Try.zeroValue3
  t4 := Try.underlying4
  a4 := Try.isAgg4
  z4 := Try.sizeOf4
  v4 := Try.zeroValue4
  t5 := Try.underlying5
  a5 := Try.isAgg5
  z5 := Try.sizeOf5
  v5 := Try.zeroValue5
  t9 := Try.underlying9
  a9 := Try.isAgg9
  z9 := Try.sizeOf9
  v9 := Try.zeroValue9
  t26 := Try.underlying26
  a26 := Try.isAgg26
  z26 := Try.sizeOf26
  v26 := Try.zeroValue26
  t27 := Try.underlying26
  a27 := Try.isAgg26
  z27 := Try.sizeOf26
  v27 := Try.zeroValue26
  t29 := Try.underlying9
  a29 := Try.isAgg9
  z29 := Try.sizeOf9
  v29 := Try.zeroValue9
  t32 := Try.underlying127
  a32 := Try.isAgg127
  z32 := Try.sizeOf127
  v32 := Try.zeroValue127
  t35 := Try.underlying133
  a35 := Try.isAgg133
  z35 := Try.sizeOf133
  v35 := Try.zeroValue133
  t36 := Try.underlying134
  a36 := Try.isAgg134
  z36 := Try.sizeOf134
  v36 := Try.zeroValue134
  t41 := Try.underlying47
  a41 := Try.isAgg47
  z41 := Try.sizeOf47
  v41 := Try.zeroValue47
  t44 := Try.underlying141
  a44 := Try.isAgg141
  z44 := Try.sizeOf141
  v44 := Try.zeroValue141
  t46 := Try.underlying82
  a46 := Try.isAgg82
  z46 := Try.sizeOf82
  v46 := Try.zeroValue82
  t53 := Try.underlying142
  a53 := Try.isAgg142
  z53 := Try.sizeOf142
  v53 := Try.zeroValue142
  t57 := Try.underlying100
  a57 := Try.isAgg100
  z57 := Try.sizeOf100
  v57 := Try.zeroValue100
  t63 := Try.underlying146
  a63 := Try.isAgg146
  z63 := Try.sizeOf146
  v63 := Try.zeroValue146
  t64 := Try.underlying147
  a64 := Try.isAgg147
  z64 := Try.sizeOf147
  v64 := Try.zeroValue147 }

theorem ctSorts (m : Nat) : AnyZ.SortsIn Try.prog ctSortedL_ren Fence.wide m :=
  ⟨fun blk off cap ss W hH hblk hsz => callsIn_wide.2 (AnyM.slices_Sort_string ctSortL blk off cap ss W hH hblk hsz),
   fun p cap W => callsIn_wide.2 (AnyM.slices_Sort_string_none ctSortL p cap W)⟩
theorem ctKeys_any (b : Nat) (W : World) : Calls Try.prog 20 #[.map (some b)] W fun e w' => e = .returned (.func (.func 44) #[] #[.pointer (some ⟨W.heap.size, 0, none⟩)]) ∧ W.alloc (.cells #[.map (some b)] 69) = w' :=
  (callsIn_wide (n := 5)).1 ((AnyZ.keys_in ctKeysL Fence.wide 5 trivial rfl (some b) W).mono fun e w' h => ⟨h.1, h.2.symm⟩)
def ctR : Value → Option (DataW Unit × List MemPlace) := fun _ => some (.lit (.bool true), [])
def ctKs : List (List UInt8) := [[98, 101, 97, 116], [99, 117, 114, 115, 111, 114], [102, 117, 108, 108], [112, 104, 97, 115, 101], [112, 111, 115]]
def ctD : DataW Unit := .map ((ctKs.map fun s => (Lit.string s, (DataW.lit (.bool true) : DataW Unit))).foldr DataW.insert [])
theorem ctD_keys : (strKeys ctD).Perm ctKs := by decide +kernel
theorem ctKs_sorted : ctKs.mergeSort leB = ctKs := by
  first
  | exact List.mergeSort_of_pairwise (by decide +kernel)
  | exact List.mergeSort_of_sorted (by decide +kernel)
theorem ctD_size : Maps.size ctD = 5 := by decide +kernel
theorem ctOwn {w : World} {b : Nat} (hb : w.heap[b]? = some (.map ptMap 5)) : w.ownsMap Try.prog 9 ctR b 5 ctD := by
  have hk : ∀ s : ByteArray, s.size ≤ maxLen → keyOf Try.prog 9 (.string s) = some (.string s.data.toList) := fun s hs => Go.WideMaps.keyOf_string_mk Try.underlying9 hs
  have k1 := hk kBeat (by decide)
  have k2 := hk kCursor (by decide)
  have k3 := hk kFull (by decide)
  have k4 := hk kPhase (by decide)
  have k5 := hk kPos (by decide)
  refine ⟨ptMap, 5, hb, ⟨by decide, ?_, ?_⟩, by decide, ?_⟩
  · refine ⟨?_, ?_, ?_⟩
    · intro x hx
      simp only [ptMap, List.mem_cons, List.not_mem_nil, or_false] at hx
      rcases hx with rfl | rfl | rfl | rfl | rfl
      all_goals simp [ptE]
    · simp [ptMap, ptE]
    · simp [ptMap, ptE, kBeat, kCursor, kFull, kPhase, kPos]
  · intro x hx
    simp only [ptMap, List.mem_cons, List.not_mem_nil, or_false] at hx
    rcases hx with rfl | rfl | rfl | rfl | rfl
    all_goals simp [Go.WideElems.rd, ptE, ctR, k1, k2, k3, k4, k5]
  · simp [ptMap, Go.WideElems.rg, Go.WideElems.rd, ptE, ctR, k1, k2, k3, k4, k5]
    rfl
theorem ctSorted_any {w : World} {b : Nat} (hb : w.heap[b]? = some (.map ptMap 5)) :
    Calls Try.prog 19 #[.func (.func 44) #[] #[.pointer (some ⟨w.heap.size, 0, none⟩)]] (w.alloc (.cells #[.map (some b)] 69)) fun e w' => ∃ A c, e = .returned (.slice A 5 c) ∧
      Reads w' w'.heap.size 1 A 5 [.string kBeat, .string kCursor, .string kFull, .string kPhase, .string kPos] ∧ Bel (w.alloc (.cells #[.map (some b)] 69)) w' := by
  have hown := ctOwn hb
  have hbl := hown.lt
  have hseq : SeqGives Fence.wide 2 Try.prog 44 #[.pointer (some ⟨w.heap.size, 0, none⟩)] encStr (fun ss => ss.Perm (strKeys ctD)) (Maps.size ctD) (w.alloc (.cells #[.map (some b)] 69)) :=
    AnyZ.keys_gives (ρ := ctKeysL_ren) { ctKeysL with } Fence.wide _ trivial rfl (by omega) w.heap.size b 5 ctD _ (by simp) (by simp) (by
      obtain ⟨es, clock, hb, Ft, hs, hD⟩ := hown
      exact ⟨es, clock, (Below.heap_alloc _ _ b hbl).trans hb, Ft, hs, hD⟩)
  have cS := AnyZ.sorted_in ctSortedL Fence.wide 5 trivial trivial trivial trivial rfl (by omega) (ctSorts _) (enters_of Try.func43 (by kernel_rfl) rfl) 44 #[.pointer (some ⟨w.heap.size, 0, none⟩)] trivial (enters_of Try.func44 (by kernel_rfl) rfl) _ _ (by rw [ctD_size]; decide) (by rw [ctD_size]; decide) _ hseq
  change CallsIn _ _ Try.prog 19 _ _ _ at cS
  refine ((callsIn_wide (n := 5)).1 cS).mono ?_
  rintro e w' ⟨v, ss, rfl, hS, hrow, hnil, hB⟩
  have hm : ss.mergeSort (fun x y => decide (x ≤ y)) = ctKs := (mergeSort_of_perm (hS.trans ctD_keys)).trans ctKs_sorted
  have hl : ss.length = 5 := by rw [← List.length_mergeSort (le := leB), show ss.mergeSort leB = ctKs from hm]; rfl
  rw [hm, hl] at hrow
  rcases hrow.2 with ⟨rfl, h0⟩ | ⟨g, cap, cur, rfl, -⟩
  · cases h0
  · exact ⟨_, _, rfl, Reads.of_own hrow, hB⟩
theorem ctSorted_at {w : World} {b g : Nat} (hb : w.heap[b]? = some (.map ptMap 5)) (hg : w.heap.size = g) :
    Calls Try.prog 19 #[.func (.func 44) #[] #[.pointer (some ⟨g, 0, none⟩)]] (w.alloc (.cells #[.map (some b)] 69)) fun e w' => ∃ A c, e = .returned (.slice A 5 c) ∧
      Reads w' w'.heap.size 1 A 5 [.string kBeat, .string kCursor, .string kFull, .string kPhase, .string kPos] ∧ Bel (w.alloc (.cells #[.map (some b)] 69)) w' := by
  subst hg
  exact ctSorted_any hb
end Go.Proofs.Ytnajjhgbombboaa
