/-
  Texts behind the statement: Rd, Ro.
-/
import Derived.Test.YtiajggmnfaidjaaGreatDoorAgg
import Derived.Test.YtiajggmnfaidjaaGreatDoorLt
import Derived.Test.YtiajggmnfaidjaaGreatDoorMp
set_option linter.unusedVariables false
set_option linter.unusedSimpArgs false
set_option linter.unusedVariables false
set_option linter.unusedSimpArgs false
namespace Go.Proofs.YtiajggmnfaidjaaGreatDoor
open Go.ChangeShapes Go.WideShapes Go.RowKit
section
variable {H : Type} {enc : TypeId × Value → H} {w : World} {base : Nat} {spare : Nat → Bool} {held : Bool}
theorem list_of {α : Type} {n : Nat} {p : Nat → α → Prop} (h : ∀ i, i < n → ∃ x, p i x) : ∃ l : List α, l.length = n ∧ ∀ i x, l[i]? = some x → p i x := by
  induction n with
  | zero => exact ⟨[], rfl, fun i x hx => by simp at hx⟩
  | succ n ih =>
    obtain ⟨l, hl, hp⟩ := ih (fun i hi => h i (by omega))
    obtain ⟨x, hx⟩ := h n (by omega)
    refine ⟨l ++ [x], by simp [hl], fun i y hy => ?_⟩
    by_cases hi : i < n
    · rw [List.getElem?_append_left (by omega)] at hy; exact hp i y hy
    · rw [List.getElem?_append_right (by omega)] at hy
      have h0 : i - l.length = 0 := by have := (List.getElem?_eq_some_iff.1 hy).1; simp at this; omega
      rw [h0] at hy
      simp at hy
      subst hy
      obtain rfl : i = n := by omega
      exact hx
theorem bytes_read {fuel : Nat} {cs : List Value} {x : DataW H × List MemPlace} (h : DataW.trod enc Tryz.prog w base spare held fuel 43 cs = some x) :
    ∃ (A : Option Addr) (s : List UInt8) (cap : Nat), cs = [.slice A s.length cap] ∧ s.length ≤ maxLen ∧ Reads w w.heap.size 1 A s.length (s.map bv) := by
  obtain ⟨A, n, cap, rfl, hn, hm, h0, hi⟩ := slice_read (sz := 1) Tryz.underlying43 (by kernel_rfl) (by omega) h
  obtain ⟨s, hs, hp⟩ := list_of (n := n) (p := fun i c => ∀ b off, A = some ⟨b, off, none⟩ → w.cell? ⟨b, off + i, none⟩ = some (bv c)) (fun i hin => by
    obtain ⟨b, off, rfl, hb, hc⟩ := hi (by omega)
    obtain ⟨cs', fuel', y, hl, hcell, ht⟩ := hc i hin
    obtain ⟨m, rfl, -, hwf⟩ := DataW.trod_int Tryz.underlying5 ht
    refine ⟨UInt8.ofNat m.toNat, fun b' off' e => ?_⟩
    cases e
    have := hcell 0 _ rfl
    rw [Nat.mul_one, Nat.add_zero] at this
    rw [this]
    have hr : 0 ≤ m ∧ m < 256 := by
      have := hwf
      simp [Lit.wf, IntKind.min, IntKind.max, IntKind.bits, IntKind.signed] at this
      omega
    unfold bv
    congr 2
    rw [UInt8.toNat_ofNat', Nat.mod_eq_of_lt (by omega)]
    omega)
  subst hs
  refine ⟨A, s, cap, rfl, by omega, by simp, fun hn => ?_⟩
  obtain ⟨b, off, rfl, hb, -⟩ := hi hn
  refine ⟨_, rfl, hb, fun j u hu => ?_⟩
  rw [List.getElem?_map] at hu
  obtain ⟨c, hc, rfl⟩ := Option.map_eq_some_iff.1 hu
  rw [add_free]
  exact hp j c hc b off rfl
end
end Go.Proofs.YtiajggmnfaidjaaGreatDoor
set_option linter.unusedVariables false
set_option linter.unusedSimpArgs false
set_option linter.unusedVariables false
set_option linter.unusedSimpArgs false
namespace Go.Proofs.YtiajggmnfaidjaaGreatDoor
open Go.ChangeShapes Go.WideShapes Go.RowKit

/-- A call. -/
structure C10 where
  what : Int
  keep : Int
  torn : Int
  s : List UInt8
/-- One call's four cells. -/
def C10At (w : World) (g o : Nat) (x : C10) : Prop := ∃ (Ab : Option Addr) (cb : Nat), w.cell? ⟨g, o, none⟩ = some (.int .i64 x.what) ∧ w.cell? ⟨g, o + 1, none⟩ = some (.int .i64 x.keep) ∧ w.cell? ⟨g, o + 2, none⟩ = some (.int .i64 x.torn) ∧ w.cell? ⟨g, o + 3, none⟩ = some (.slice Ab x.s.length cb) ∧ (Ab = none → cb = 0) ∧ Reads w w.heap.size 1 Ab x.s.length (x.s.map bv)
def Calls10 (w : World) (A : Option Addr) (L : List C10) : Prop := 0 < L.length → ∃ g off, A = some ⟨g, off, none⟩ ∧ ∀ k x, L[k]? = some x → C10At w g (off + k * 4) x
theorem C10At.bel {w w' : World} {g o : Nat} {x : C10} (h : C10At w g o x) (hb : Bel w w') : C10At w' g o x := by
  obtain ⟨Ab, cb, h0, h1, h2, h3, h5, h6⟩ := h
  exact ⟨Ab, cb, hb.c h0, hb.c h1, hb.c h2, hb.c h3, h5, h6.belHeap hb⟩
theorem Calls10.at_ {w w' : World} {A : Option Addr} {L : List C10} (h : Calls10 w A L) (hb : Bel w w') {k : Nat} {x : C10} (hx : L[k]? = some x) : ∃ g off, A = some ⟨g, off, none⟩ ∧ C10At w' g (off + k * 4) x := by
  have hlt := (List.getElem?_eq_some_iff.1 hx).1
  obtain ⟨g, off, e, hc⟩ := h (by omega)
  exact ⟨g, off, e, (hc k x hx).bel hb⟩
set_option maxRecDepth 100000 in
set_option maxHeartbeats 1000000 in
theorem few10_any (M : Nat) (hM : M ≤ 1000) (A : Option Addr) (cap : Nat) (L : List C10) (hm : L.length ≤ maxLen) (hLm : ∀ x ∈ L, x.s.length ≤ maxLen) (w : World) (h : Calls10 w A L) :
    Calls Tryz.prog 4 #[.slice A L.length cap, .int .i64 M] w fun e w' => e = .returned (.bool (decide (L.length ≤ M ∧ ∀ x ∈ L, x.s.length ≤ 60))) ∧ w = w' := by
  have H := Lib.hid h
  have hlI : (L.length : Int) ≤ 9223372036854775807 := by unfold maxLen at hm; omega
  have HLM := Lib.hid hLm
  have hMI : (M : Int) ≤ 1000 := by omega
  obtain ⟨bb, hbb⟩ : ∃ b, b = decide (L.length ≤ M ∧ ∀ x ∈ L, x.s.length ≤ 60) := ⟨_, rfl⟩
  rw [← hbb]
  have HBB := Lib.hid hbb
  clear h hm hLm hbb
  go_enter Tryz.func4, Tryz.ntmps4
  go_wp2
  go_loopw [5] (fun i wr => ∃ k : Nat, k ≤ L.length ∧ k ≤ M + 1 ∧ i = .int .i64 k ∧ wr = w ∧ Hid (∀ x ∈ L.take k, x.s.length ≤ 60)) (fun i _ => M + 1 - (intOf i).toNat)
  case atStart => exact ⟨0, Nat.zero_le _, by omega, rfl, rfl, fun x hx => by simp at hx⟩
  case round =>
    obtain ⟨k, hk, hkM, rfl, hwr, HT⟩ := hrel
    have hwr' := hwr.symm
    clear hwr
    subst hwr'
    by_cases hlt : k < L.length ∧ k ≤ M
    · obtain ⟨x, hx⟩ : ∃ x, L[k]? = some x := ⟨_, List.getElem?_eq_getElem hlt.1⟩
      have hmem := List.mem_of_getElem? hx
      have hxm := HLM.out x hmem
      have hxI : (x.s.length : Int) ≤ 9223372036854775807 := by unfold maxLen at hxm; omega
      obtain ⟨g, off, rfl, Ab, cb, c0, c1, c2, c3, -, -⟩ := H.out.at_ (Bel.refl w) hx
      have hkI : (k : Int) < L.length := by omega
      have hkM2 : (k : Int) ≤ M := by omega
      have HTK : Hid (x.s.length ≤ 60 → ∀ y ∈ L.take (k + 1), y.s.length ≤ 60) := fun h y hy => by
        rw [List.take_add_one, hx] at hy
        rcases List.mem_append.1 hy with hy | hy
        · exact HT.out y hy
        · simp at hy; subst hy; exact h
      have HNB : Hid (¬ x.s.length ≤ 60 → bb = false) := fun h => by rw [HBB.out]; exact decide_eq_false (fun e => h (e.2 x hmem))
      clear hx hmem hxm
      generalize x.s.length = z at *
      by_cases hz : (z : Int) ≤ 60
      · go_wp2
        go_roundw
        case rel => exact ⟨k + 1, by omega, by omega, by go_num, by first | rfl | trivial, HTK.out (by omega)⟩
        case measure => simp [intOf]; omega
      · have hbf := HNB.out (by omega)
        have hz2 : (60 : Int) < z := by omega
        go_wp2
        go_ret
        exact ⟨by first | rfl | (rw [hbf]; rfl), rfl⟩
    · by_cases hL : L.length ≤ M
      · obtain rfl : k = L.length := by omega
        have hbt : bb = true := by rw [HBB.out]; exact decide_eq_true ⟨hL, fun x hx => HT.out x (by rw [List.take_length]; exact hx)⟩
        have hLI : (L.length : Int) ≤ M := by omega
        clear hlt hk hkM hL
        go_wp2
        go_ret
        exact ⟨by first | rfl | (rw [hbt]; rfl), rfl⟩
      · obtain rfl : k = M + 1 := by omega
        have hbf : bb = false := by rw [HBB.out]; exact decide_eq_false (fun e => hL e.1)
        have hLI : (M : Int) < L.length := by omega
        have hdd : decide ((L.length : Int) ≤ M) = false := decide_eq_false (by omega)
        have hddN : decide (L.length ≤ M) = false := decide_eq_false (by omega)
        clear hlt hk hkM hL
        go_wp2
        all_goals
          go_ret
          exact ⟨by first | rfl | (rw [hbf]; rfl), rfl⟩
section
variable {H : Type} {enc : TypeId × Value → H} {w : World} {base : Nat} {spare : Nat → Bool} {held : Bool}
theorem call10_read {fuel : Nat} {cs : List Value} {x : DataW H × List MemPlace} (h : DataW.trod enc Tryz.prog w base spare held fuel 45 cs = some x) :
    ∃ (a b c : Int) (Ab : Option Addr) (s : List UInt8) (cb : Nat), cs = [.int .i64 a, .int .i64 b, .int .i64 c, .slice Ab s.length cb] ∧ s.length ≤ maxLen ∧ (Ab = none → cb = 0) ∧ Reads w w.heap.size 1 Ab s.length (s.map bv) := by
  obtain ⟨hl, m, hg⟩ := struct_cells Tryz.underlying45 (by kernel_rfl) (by kernel_rfl) h
  obtain ⟨u0, u1, u2, u3, rfl⟩ := list4 hl
  obtain ⟨v0, y0, k0, e0⟩ := hg 0 _ rfl
  obtain ⟨v1, y1, k1, e1⟩ := hg 1 _ rfl
  obtain ⟨v2, y2, k2, e2⟩ := hg 2 _ rfl
  obtain ⟨v3, y3, k3, e3⟩ := hg 3 _ rfl
  cases k0
  cases k1
  cases k2
  cases k3
  obtain ⟨a, q0, -, -⟩ := DataW.trod_int Tryz.underlying3 e0
  obtain ⟨b, q1, -, -⟩ := DataW.trod_int Tryz.underlying3 e1
  obtain ⟨c, q2, -, -⟩ := DataW.trod_int Tryz.underlying3 e2
  obtain ⟨Ab, s, cb, q4, hm, hr⟩ := bytes_read e3
  obtain ⟨A', n', cap', q4', -, -, hnone, -⟩ := slice_read (sz := 1) Tryz.underlying43 (by kernel_rfl) (by omega) e3
  simp only [List.cons.injEq, and_true] at q0 q1 q2 q4 q4'
  subst q0 q1 q2
  rw [q4] at q4'
  cases q4'
  exact ⟨a, b, c, Ab, s, cb, by rw [q4], hm, fun h => (hnone h).2, hr⟩
theorem calls10_read {fuel : Nat} {cs : List Value} {x : DataW H × List MemPlace} (h : DataW.trod enc Tryz.prog w base spare held fuel 22 cs = some x) :
    ∃ (A : Option Addr) (L : List C10) (cap : Nat), cs = [.slice A L.length cap] ∧ L.length ≤ maxLen ∧ (∀ x ∈ L, x.s.length ≤ maxLen) ∧ Calls10 w A L := by
  obtain ⟨A, n, cap, rfl, hn, hm, h0, hi⟩ := slice_read (sz := 4) Tryz.underlying22 (by kernel_rfl) (by omega) h
  obtain ⟨L, hL, hp⟩ := list_of (n := n) (p := fun i (c : C10) => (∀ b off, A = some ⟨b, off, none⟩ → C10At w b (off + i * 4) c) ∧ c.s.length ≤ maxLen) (fun i hin => by
    obtain ⟨b, off, rfl, hb, hc⟩ := hi (by omega)
    obtain ⟨cs', fuel', y, hl, hcell, ht⟩ := hc i hin
    obtain ⟨p, q, r, Ab, s, cb, rfl, hs, hnone, hr⟩ := call10_read ht
    refine ⟨⟨p, q, r, s⟩, fun b' off' e => ?_, hs⟩
    cases e
    exact ⟨Ab, cb, hcell 0 _ rfl, hcell 1 _ rfl, hcell 2 _ rfl, hcell 3 _ rfl, hnone, hr⟩)
  subst hL
  refine ⟨A, L, cap, rfl, by omega, fun x hx => ?_, fun hn => ?_⟩
  · obtain ⟨i, hi⟩ := List.mem_iff_getElem?.1 hx
    exact (hp i x hi).2
  · obtain ⟨b, off, rfl, hb, -⟩ := hi hn
    exact ⟨b, off, rfl, fun k x hx => (hp k x hx).1 b off rfl⟩
end
end Go.Proofs.YtiajggmnfaidjaaGreatDoor
