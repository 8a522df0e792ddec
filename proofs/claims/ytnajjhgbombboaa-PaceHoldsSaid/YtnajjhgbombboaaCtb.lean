/-
  Package control: a value, a row, numbers laid.
-/
import Derived.Test.YtnajjhgbombboaaOqp
import Derived.Laws.BytesArg
set_option linter.unusedVariables false
set_option linter.unusedSimpArgs false
set_option linter.unusedVariables false
set_option linter.unusedSimpArgs false
namespace Go.Proofs.Ytnajjhgbombboaa
open Go.RowKit

def strV (s : List UInt8) : Value := .string ⟨s.toArray⟩
theorem strOf_bytes (s : List UInt8) : strOfNums (s.map fun c => (c.toNat : Int)) = ⟨s.toArray⟩ := by
  unfold strOfNums
  rw [List.map_map]
  have : (s.map ((fun n : Int => UInt8.ofNat n.toNat) ∘ fun c => (c.toNat : Int))) = s := by
    conv => rhs; rw [← List.map_id s]
    apply List.map_congr_left
    intro c _
    simp
  rw [this]
theorem conv_string {w : World} {v : Value} {s : List UInt8} {fp : Nat → Prop} (h : BytesAt w v s fp) : (convert 87 9 v).run Try.prog w = .ok (strV s) w := by
  obtain ⟨A, cap, rfl, h2, h3, h4, h5, h6⟩ := h
  cases A with
  | none =>
    have := h4 rfl
    have : s = [] := List.eq_nil_of_length_eq_zero (by omega)
    subst this
    have := run_convert_bytes_nil (P := Try.prog) w 87 5 Try.underlying87 Try.underlying5 0 cap 9 Try.underlying9
    exact this
  | some a =>
    obtain ⟨b, off, spot⟩ := a
    have := h5 _ rfl
    simp at this
    subst this
    have := run_convert_bytes_arg (P := Try.prog) w 87 5 Try.underlying87 Try.underlying5 b off s.length cap (s.map fun c => (c.toNat : Int)) (by simp) (fun i hi => by
      obtain ⟨b', off', cs, fz, e, _, hb, hc⟩ := h6 (by omega)
      simp at e
      obtain ⟨rfl, rfl⟩ := e
      have := hc i s[i] (List.getElem?_eq_getElem hi)
      simp [World.cell?, hb, this, bv, List.getD, hi]) 9 Try.underlying9
    rw [this, strOf_bytes]
    rfl

def vb (s : ByteArray) : Value := .agg #[.int .i64 4, .int .i64 0, .int .u64 0, .string s]
theorem ctBytes_any (s : ByteArray) (w : World) : Calls Try.prog 45 #[.string s] w fun e w' => e = .returned (vb s) ∧ Bel w w' := by
  go_enter Try.func45, Try.ntmps45
  go_wp2
  refine bodyPost_ret (v := vb s) (by simp [results, Try.results45, go_sem, vb]) rfl ⟨rfl, by (repeat (first | exact Below.refl _ _ | assumption | exact Bel.refl _ | refine Bel.alloc ?_ _ | refine Bel.drew ?_ | refine Bel.drewN ?_ _ | refine Bel.then_ ?_ (by assumption) | refine Bel.setCell ?_ (by first | (simp; done) | (simp; omega)) _))⟩
def rowC (k s : ByteArray) : Array Value := #[.int .i64 4, .int .i64 0, .int .u64 0, .string k, .int .i64 4, .int .i64 0, .int .u64 0, .string s]
theorem ctRow_any (k s : ByteArray) (w : World) : Calls Try.prog 21 #[.string k, .string s] w fun e w' => ∃ b, e = .returned (.slice (some ⟨b, 0, none⟩) 2 2) ∧ w.heap.size ≤ b ∧ Blk w' b 84 (rowC k s) ∧ Bel w w' := by
  go_enter Try.func21, Try.ntmps21
  go_wp2_with fail
  refine (ctBytes_any _ _).mono ?_
  rintro e1 w1 ⟨rfl, hb1⟩
  obtain ⟨hc1, hf1, hs1⟩ := bcell hb1
  try simp only [World.size_alloc, World.size_drew, World.size_setCell] at hs1 hc1 hf1
  go_wp2_with fail
  refine (ctBytes_any _ _).mono ?_
  rintro e2 w2 ⟨rfl, hb2⟩
  obtain ⟨hc2, hf2, hs2⟩ := bcell hb2
  try simp only [World.size_alloc, World.size_drew, World.size_setCell] at hs2 hc2 hf2
  unfold vb
  go_wp2
  go_ret
  exact ⟨_, rfl, by omega, Blk.new _ _ _, by (repeat (first | exact Below.refl _ _ | assumption | exact Bel.refl _ | refine Bel.alloc ?_ _ | refine Bel.drew ?_ | refine Bel.drewN ?_ _ | refine Bel.then_ ?_ (by assumption) | refine Bel.setCell ?_ (by first | (simp; done) | (simp; omega)) _))⟩

def layNs (l : List Int) : List UInt8 := l.flatMap fun x => beN x.toNat 8
theorem layNs_snoc {l : List Int} {k : Nat} {x : Int} (h : l[k]? = some x) : layNs (l.take (k + 1)) = layNs (l.take k) ++ beN x.toNat 8 := by
  have hl : k < l.length := (List.getElem?_eq_some_iff.1 h).1
  have hx : l[k] = x := (List.getElem?_eq_some_iff.1 h).2
  rw [List.take_succ_eq_append_getElem hl, hx]
  simp [layNs]
theorem layNs_len : ∀ l : List Int, (layNs l).length = 8 * l.length
  | [] => rfl
  | x :: l => by
    have := layNs_len l
    unfold layNs at this ⊢
    rw [List.flatMap_cons, List.length_append, this, beN_length, List.length_cons]
    omega
theorem strV_add (a b : List UInt8) : Value.string ((⟨a.toArray⟩ : ByteArray) ++ ⟨b.toArray⟩) = strV (a ++ b) := by
  unfold strV
  congr 1
set_option maxRecDepth 100000 in
set_option maxHeartbeats 1000000 in
theorem ctLaid_any (l : List Int) (hl : ∀ x ∈ l, 0 ≤ x ∧ x ≤ 1099511627776) (A : Option Addr) (c : Nat) (w : World) (hr : Reads w w.heap.size 1 A l.length (l.map fun x => .int .i64 x)) (hn : l.length ≤ 10) :
    Calls Try.prog 30 #[.slice A l.length c] w fun e w' => e = .returned (strV (layNs l)) ∧ Bel w w' := by
  have HR := Lib.hid hr
  have HL := Lib.hid hl
  have hlI : (l.length : Int) ≤ 10 := by omega
  clear hr hl hn
  go_enter Try.func30, Try.ntmps30
  go_wp2
  go_loopw [2, 9] (fun v i wr => ∃ k : Nat, k ≤ l.length ∧ i = .int .i64 k ∧ v = strV (layNs (l.take k)) ∧ Bel w wr) (fun _ i _ => l.length - (intOf i).toNat)
  case atStart => exact ⟨0, Nat.zero_le _, rfl, rfl, Bel.refl w⟩
  case round =>
    obtain ⟨k, hk, rfl, rfl, hB⟩ := hrel
    by_cases hlt : k < l.length
    · obtain ⟨x, hx⟩ : ∃ x, l[k]? = some x := ⟨_, List.getElem?_eq_getElem hlt⟩
      have hxr := HL.out x (List.mem_of_getElem? hx)
      obtain ⟨ad, u, rfl, hbl, hu, hcell⟩ := (HR.out.keep (w' := wr) fun p hp => hB.cell hp).at_ hlt
      rw [List.getElem?_map, hx] at hu
      simp only [Option.map_some, Option.some.injEq] at hu
      subst hu
      obtain ⟨n, rfl⟩ : ∃ n : Nat, x = n := ⟨x.toNat, by omega⟩
      have hwr : IntKind.u64.wrap (n : Int) = (n : Int) := by
        simp only [IntKind.wrap, IntKind.bits, IntKind.signed]
        simp
        omega
      have hn40 : n ≤ 1099511627776 := by omega
      have hsz : ¬ 9223372036854775807 < (layNs (List.take k l)).length + (beN n 8).length := by
        rw [layNs_len, beN_length, List.length_take]
        omega
      have HF := Lib.hid (fixed_any n 8 (by rw [show (2 : Nat) ^ 64 = 18446744073709551616 from rfl]; omega) (by omega) (by omega) (by rw [show (256 : Nat) ^ 8 = 18446744073709551616 from rfl]; omega) wr)
      unfold GivesFixed at HF
      have HX := Lib.hid hx
      clear hx
      go_wp2_with fail
      refine HF.out.mono ?_
      rintro e w1 ⟨A1, c1, rfl, hown, hb⟩
      have hcv := conv_string (BytesAt.of_own hown)
      have hb2 := hB.then_ hb
      unfold strV at hcv ⊢
      go_wp2
      all_goals
        go_round
        case rel => exact ⟨k + 1, by omega, by go_num, by rw [layNs_snoc HX.out]; exact strV_add _ _, hb2⟩
        case measure => simp [intOf]; omega
    · go_wp2
      go_ret
      rw [List.take_of_length_le (by omega)]
      exact ⟨rfl, hB⟩
end Go.Proofs.Ytnajjhgbombboaa
