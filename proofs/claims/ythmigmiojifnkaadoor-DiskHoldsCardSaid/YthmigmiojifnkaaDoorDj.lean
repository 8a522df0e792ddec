/-
  DiskHolds: the calls as they are read; few.
-/
import Derived.Test.YthmigmiojifnkaaDoorDc
import Derived.Test.YthmigmiojifnkaaDoorRd
set_option linter.unusedVariables false
set_option linter.unusedSimpArgs false
set_option linter.unusedVariables false
set_option linter.unusedSimpArgs false
namespace Go.Proofs.YthmigmiojifnkaaDoor
open Go.RowKit

/-- A call. -/
structure C9 where
  what : Int
  file : Int
  n : Int
  torn : Int
  s : List UInt8
/-- One call's five cells. -/
def C9At (w : World) (g o : Nat) (x : C9) : Prop := ∃ (Ab : Option Addr) (cb : Nat), w.cell? ⟨g, o, none⟩ = some (.int .i64 x.what) ∧ w.cell? ⟨g, o + 1, none⟩ = some (.int .i64 x.file) ∧ w.cell? ⟨g, o + 2, none⟩ = some (.int .i64 x.n) ∧ w.cell? ⟨g, o + 3, none⟩ = some (.int .i64 x.torn) ∧ w.cell? ⟨g, o + 4, none⟩ = some (.slice Ab x.s.length cb) ∧ (Ab = none → cb = 0) ∧ Reads w w.heap.size 1 Ab x.s.length (x.s.map bv)
def CallsAt (w : World) (A : Option Addr) (L : List C9) : Prop := 0 < L.length → ∃ g off, A = some ⟨g, off, none⟩ ∧ ∀ k x, L[k]? = some x → C9At w g (off + k * 5) x
theorem C9At.bel {w w' : World} {g o : Nat} {x : C9} (h : C9At w g o x) (hb : Bel w w') : C9At w' g o x := by
  obtain ⟨Ab, cb, h0, h1, h2, h3, h4, h5, h6⟩ := h
  exact ⟨Ab, cb, hb.c h0, hb.c h1, hb.c h2, hb.c h3, hb.c h4, h5, h6.belHeap hb⟩
theorem CallsAt.at_ {w w' : World} {A : Option Addr} {L : List C9} (h : CallsAt w A L) (hb : Bel w w') {k : Nat} {x : C9} (hx : L[k]? = some x) : ∃ g off, A = some ⟨g, off, none⟩ ∧ C9At w' g (off + k * 5) x := by
  have hlt := (List.getElem?_eq_some_iff.1 hx).1
  obtain ⟨g, off, e, hc⟩ := h (by omega)
  exact ⟨g, off, e, (hc k x hx).bel hb⟩
set_option maxRecDepth 100000 in
set_option maxHeartbeats 1000000 in
theorem few_any (A : Option Addr) (cap : Nat) (L : List C9) (hm : L.length ≤ maxLen) (hLm : ∀ x ∈ L, x.s.length ≤ maxLen) (w : World) (h : CallsAt w A L) :
    Calls Tryd.prog 8 #[.slice A L.length cap, .int .i64 20] w fun e w' => e = .returned (.bool (decide (L.length ≤ 20 ∧ ∀ x ∈ L, x.s.length ≤ 60))) ∧ w = w' := by
  have H := Lib.hid h
  have hlI : (L.length : Int) ≤ 9223372036854775807 := by unfold maxLen at hm; omega
  have HLM := Lib.hid hLm
  obtain ⟨bb, hbb⟩ : ∃ b, b = decide (L.length ≤ 20 ∧ ∀ x ∈ L, x.s.length ≤ 60) := ⟨_, rfl⟩
  rw [← hbb]
  have HBB := Lib.hid hbb
  clear h hm hLm hbb
  go_enter Tryd.func8, Tryd.ntmps8
  go_wp2
  go_loopw [5] (fun i wr => ∃ k : Nat, k ≤ L.length ∧ k ≤ 21 ∧ i = .int .i64 k ∧ wr = w ∧ Hid (∀ x ∈ L.take k, x.s.length ≤ 60)) (fun i _ => 21 - (intOf i).toNat)
  case atStart => exact ⟨0, Nat.zero_le _, by omega, rfl, rfl, fun x hx => by simp at hx⟩
  case round =>
    obtain ⟨k, hk, hk21, rfl, hwr, HT⟩ := hrel
    have hwr' := hwr.symm
    clear hwr
    subst hwr'
    by_cases hlt : k < L.length ∧ k ≤ 20
    · obtain ⟨x, hx⟩ : ∃ x, L[k]? = some x := ⟨_, List.getElem?_eq_getElem hlt.1⟩
      have hmem := List.mem_of_getElem? hx
      have hxm := HLM.out x hmem
      have hxI : (x.s.length : Int) ≤ 9223372036854775807 := by unfold maxLen at hxm; omega
      obtain ⟨g, off, rfl, Ab, cb, c0, c1, c2, c3, c4, -, -⟩ := H.out.at_ (Bel.refl w) hx
      have hkI : (k : Int) < L.length := by omega
      have hk20 : (k : Int) ≤ 20 := by omega
      have HTK : Hid (x.s.length ≤ 60 → ∀ y ∈ L.take (k + 1), y.s.length ≤ 60) := fun h y hy => by
        rw [List.take_add_one, hx] at hy
        rcases List.mem_append.1 hy with hy | hy
        · exact HT.out y hy
        · simp at hy; subst hy; exact h
      have HNB : Hid (¬ x.s.length ≤ 60 → bb = false) := fun h => by rw [HBB.out]; exact decide_eq_false (fun e => h (e.2 x hmem))
      clear hx hmem hxm
      generalize x.s.length = z at *
      by_cases hz : (z : Int) ≤ 60
      · go_wp2
        go_roundw
        case rel => exact ⟨k + 1, by omega, by omega, by go_num, by first | rfl | trivial, HTK.out (by omega)⟩
        case measure => simp [intOf]; omega
      · have hbf := HNB.out (by omega)
        have hz2 : (60 : Int) < z := by omega
        go_wp2
        go_ret
        exact ⟨by first | rfl | (rw [hbf]; rfl), rfl⟩
    · by_cases hL : L.length ≤ 20
      · obtain rfl : k = L.length := by omega
        have hbt : bb = true := by rw [HBB.out]; exact decide_eq_true ⟨hL, fun x hx => HT.out x (by rw [List.take_length]; exact hx)⟩
        have hLI : (L.length : Int) ≤ 20 := by omega
        clear hlt hk hk21 hL
        go_wp2
        go_ret
        exact ⟨by first | rfl | (rw [hbt]; rfl), rfl⟩
      · obtain rfl : k = 21 := by omega
        have hbf : bb = false := by rw [HBB.out]; exact decide_eq_false (fun e => hL e.1)
        have hLI : (20 : Int) < L.length := by omega
        have hdd : decide ((L.length : Int) ≤ 20) = false := decide_eq_false (by omega)
        clear hlt hk hk21 hL
        go_wp2
        all_goals
          go_ret
          exact ⟨by first | rfl | (rw [hbf]; rfl), rfl⟩
end Go.Proofs.YthmigmiojifnkaaDoor
