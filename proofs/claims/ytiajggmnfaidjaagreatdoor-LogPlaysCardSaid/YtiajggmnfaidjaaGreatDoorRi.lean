/-
  The document's log: From, Read.
-/
import Derived.Test.YtiajggmnfaidjaaGreatDoorRh
import Derived.Test.YtiajggmnfaidjaaGreatDoorLr
set_option linter.unusedVariables false
set_option linter.unusedSimpArgs false
set_option linter.unusedVariables false
set_option linter.unusedSimpArgs false
namespace Go.Proofs.YtiajggmnfaidjaaGreatDoor
open Go.RowKit

/-- The rows from a position on. -/
def rowsAt (R : List (Nat × List UInt8)) (a : Int) : List (Nat × List UInt8) := R.dropWhile (fun q => decide ((q.1 : Int) ≠ a))
theorem rowsAt_hit {a : Int} : ∀ (R : List (Nat × List UInt8)) (k : Nat) (x : Nat × List UInt8), R[k]? = some x → (x.1 : Int) = a → NoneAt a (R.take k) → rowsAt R a = R.drop k
  | [], k, x, h, _, _ => by simp at h
  | y :: R, 0, x, h, hx, _ => by
    simp at h
    subst h
    simp [rowsAt, hx]
  | y :: R, k + 1, x, h, hx, hn => by
    have h1 : (y.1 : Int) ≠ a := hn y (by simp)
    have := rowsAt_hit R k x (by simpa using h) hx (fun q hq => hn q (by simp [hq]))
    unfold rowsAt at this ⊢
    rw [List.dropWhile_cons_of_pos (by simpa using h1), this]
    rfl
theorem rowsAt_none {a : Int} : ∀ {R : List (Nat × List UInt8)}, NoneAt a R → rowsAt R a = []
  | [], _ => rfl
  | y :: R, h => by
    have h1 : (y.1 : Int) ≠ a := h y (by simp)
    have := rowsAt_none (R := R) (fun q hq => h q (by simp [hq]))
    unfold rowsAt at this ⊢
    rw [List.dropWhile_cons_of_pos (by simpa using h1), this]
theorem sizeRR (w : World) : (sizeOf (Tryz.prog.elem 75)).run Tryz.prog w = .ok 2 w := by kernel_rfl
theorem slice_fromR (A : Option Addr) (n cap l : Nat) (hln : l ≤ n) (w : World) :
    (Instr.slice 75 (.slice A n cap) (some (.int .i64 l)) none none).run Tryz.prog w = .ok (.slice (if cap = l then A else A.map (·.add (l * 2))) (n - l) (cap - l)) w := by
  rw [run_slice_l w 75 A n cap (by kernel_rfl) .i64 l (by omega) (by omega), sizeRR]
  simp [Result.andThen, sliced]
theorem rrows_drop (R : List (Nat × List UInt8)) (k : Nat) : rrows (R.drop k) = (rrows R).drop (k * 2) := by
  induction R generalizing k with
  | nil => simp [rrows]
  | cons y R ih =>
    cases k with
    | zero => simp
    | succ k =>
      rw [List.drop_succ_cons, ih k, show (k + 1) * 2 = 2 + k * 2 by omega, ← List.drop_drop]
      rfl
theorem RRows.from_ {w : World} {A : Option Addr} {n cap k : Nat} {l : List (Nat × List UInt8)} (h : RRows w (.slice A n cap) l) (hk : k < l.length) : RRows w (.slice (if cap = k then A else A.map (·.add (k * 2))) (n - k) (cap - k)) (l.drop k) := by
  obtain ⟨A', c', e, hl, h⟩ := h
  simp only [Value.slice.injEq] at e
  obtain ⟨rfl, rfl, rfl⟩ := e
  obtain ⟨g, off, rfl, hg, hc⟩ := h (by omega)
  rw [if_neg (by omega)]
  refine ⟨_, _, by rw [List.length_drop], by rw [List.length_drop]; omega, fun hn => ⟨g, off + k * 2, by simp [add_free], hg, fun j u hu => ?_⟩⟩
  rw [rrows_drop, List.getElem?_drop] at hu
  have := hc _ _ hu
  rw [← Nat.add_assoc] at this
  exact this
set_option maxRecDepth 100000 in
theorem r10From_any {w : World} {cs : Array Value} {m : DM} {file tn : Int} (h : RLog w cs m file tn) (hfit : RFit m) (h0 : 0 ≤ file) (h64 : file < 64)
    (xs : List (List UInt8)) (t : List UInt8) (hx : ∀ x ∈ xs, x.length ≤ 60000) (ht : firstL t = none) (hs : m.files file = recsN xs ++ t) (a : Int) :
    Calls Tryz.prog 30 #[.agg cs, .int .i64 a] w fun e w' => ∃ v, e = .returned v ∧ RRows w' v (rowsAt (rowsFrom 0 xs) a) ∧ Bel w w' := by
  have hsz68 : (Tryz.prog.info? 38).map (·.size) = some cs.size := by obtain ⟨ds, hd, rfl⟩ := id h; rw [Array.size_append, hd.size]; kernel_rfl
  have HSZ := Lib.hid hsz68
  have HBL : Hid ((w.alloc (.cells cs 38)).heap[w.heap.size]? = some (.cells cs 38 (0, 0))) := World.alloc_heap_new _ _
  have hal : Bel w (w.alloc (.cells cs 38)) := (Bel.refl w).alloc _
  have HAL := Lib.hid hal
  have HA := Lib.hid (r10All_any (h.bel hal) hfit h0 h64 xs t hx ht hs)
  clear hsz68 hal
  have hlen : (recsN xs).length ≤ 16777216 := by
    have h1 : (m.files file).length ≤ 16777216 := by rw [hfit.files]; exact hfit.len _ _ h0 h64
    rw [hs, List.length_append] at h1
    omega
  have hrl : (rowsFrom 0 xs).length = xs.length := by have := congrArg List.length (rowsFrom_snd' xs 0); simpa using this
  have hxl : xs.length ≤ 16777216 := by
    have : ∀ l : List (List UInt8), l.length ≤ (recsN l).length := fun l => by
      induction l with
      | nil => simp [recsN]
      | cons y l ih => show _ ≤ (recN y ++ recsN l).length; rw [List.length_append, recN_length, List.length_cons]; omega
    have := this xs
    omega
  have hle := fun q hq => rows_le xs 0 q hq
  clear h hfit hx ht hs
  generalize rowsFrom 0 xs = R at *
  have HLE : Hid (∀ q ∈ R, q.1 ≤ 16777216) := fun q hq => by have := hle q hq; omega
  have hRI : (R.length : Int) ≤ 16777216 := by omega
  clear hle hlen hrl hxl
  go_enter Tryz.func30, Tryz.ntmps30
  go_wp2_with (refine wpList_load_row rfl 38 _ rfl w.heap.size rfl _ cs (0, 0) _ HBL.out Tryz.underlying38 rfl HSZ.out ?_)
  refine HA.out.mono ?_
  rintro e w1 ⟨v, rfl, hv, hb⟩
  obtain ⟨A, c, rfl, hcl, hv'⟩ := id hv
  have HV := Lib.hid hv
  have HB := Lib.hid (HAL.out.then_ hb)
  clear hv hv' hb HA
  go_wp2
  go_loopw [6] (fun i wr => ∃ k : Nat, k ≤ R.length ∧ i = .int .i64 k ∧ Hid (NoneAt a (R.take k) ∧ Bel w1 wr)) (fun i _ => R.length - (intOf i).toNat)
  case atStart => exact ⟨0, Nat.zero_le _, rfl, fun q hq => by simp at hq, Bel.refl _⟩
  case round =>
    obtain ⟨k, hk, rfl, HN⟩ := hrel
    by_cases hlt : k < R.length
    · obtain ⟨x, hxk⟩ : ∃ x, R[k]? = some x := ⟨_, List.getElem?_eq_getElem hlt⟩
      obtain ⟨g, off, rfl, c0, c1⟩ := (HV.out.bel HN.out.2).at_ hxk
      have hkI : (k : Int) < R.length := by omega
      have hx1 : (x.1 : Int) ≤ 16777216 := by have := HLE.out x (List.mem_of_getElem? hxk); omega
      have HXK := Lib.hid hxk
      by_cases he : (x.1 : Int) = a
      · have hbq : ((x.1 : Int) == a) = true := by simp [he]
        have HR : Hid (RRows wr (.slice (if c = k then some ⟨g, off, none⟩ else (some (⟨g, off, none⟩ : Addr)).map (·.add (k * 2))) (R.length - k) (c - k)) (rowsAt R a)) := by
          have := (HV.out.bel HN.out.2).from_ hlt
          rw [← rowsAt_hit R k x hxk he HN.out.1] at this
          exact this
        have hsl := fun w => slice_fromR (some ⟨g, off, none⟩) R.length c k (by omega) w
        generalize (if c = k then some (⟨g, off, none⟩ : Addr) else (some (⟨g, off, none⟩ : Addr)).map (·.add (k * 2))) = A2 at *
        clear he hxk
        go_wp2
        go_ret
        exact ⟨_, rfl, HR.out, HB.out.then_ HN.out.2⟩
      · have hbq : ((x.1 : Int) == a) = false := beq_eq_false_iff_ne.2 he
        have HN2 : Hid (NoneAt a (R.take (k + 1)) ∧ Bel w1 wr) := ⟨by rw [List.take_add_one, hxk]; exact HN.out.1.snoc he, HN.out.2⟩
        clear he hxk
        go_wp2
        go_roundw
        case rel => exact ⟨k + 1, by omega, by go_num, HN2.out⟩
        case measure => simp [intOf]; omega
    · obtain rfl : k = R.length := by omega
      have hr : rowsAt R a = [] := rowsAt_none (by have := HN.out.1; rwa [List.take_length] at this)
      go_wp2
      go_ret
      rw [hr]
      exact ⟨_, rfl, ⟨none, 0, rfl, by simp, fun h => by simp at h⟩, HB.out.then_ HN.out.2⟩
end Go.Proofs.YtiajggmnfaidjaaGreatDoor
