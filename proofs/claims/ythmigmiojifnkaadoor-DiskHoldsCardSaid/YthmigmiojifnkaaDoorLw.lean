/-
  The log: bytes as records and a rest; the whole part.
-/
import Derived.Test.YthmigmiojifnkaaDoorLf
set_option linter.unusedVariables false
set_option linter.unusedSimpArgs false
set_option linter.unusedVariables false
set_option linter.unusedSimpArgs false
namespace Go.Proofs.YthmigmiojifnkaaDoor
open Go.RowKit

theorem numFold (s : List UInt8) : ∀ m : Nat, s.foldl (fun n c => n * 256 + c.toNat) m = m * 256 ^ s.length + numN s := by
  induction s with
  | nil => intro m; simp [numN]
  | cons c s ih =>
    intro m
    have h0 : numN (c :: s) = (0 * 256 + c.toNat) * 256 ^ s.length + numN s := by
      show (c :: s).foldl _ 0 = _
      rw [List.foldl_cons, ih]
    rw [List.foldl_cons, ih, h0, List.length_cons, Nat.pow_succ, Nat.add_mul, Nat.add_mul, Nat.mul_assoc, Nat.mul_comm 256 (256 ^ s.length)]
    omega
theorem numN_cons (c : UInt8) (s : List UInt8) : numN (c :: s) = c.toNat * 256 ^ s.length + numN s := by
  have := numFold s (0 * 256 + c.toNat)
  have h0 : numN (c :: s) = (0 * 256 + c.toNat) * 256 ^ s.length + numN s := by
    show (c :: s).foldl _ 0 = _
    rw [List.foldl_cons, this]
  rw [h0]
  simp
theorem beN_mod (a m : Nat) : ∀ k j, j ≤ k → beN (a * 256 ^ k + m) j = beN m j
  | k, 0, _ => rfl
  | k, j + 1, h => by
    rw [beN, beN, beN_mod a m k j (by omega)]
    congr 2
    obtain ⟨d, rfl⟩ : ∃ d, k = j + 1 + d := ⟨k - (j + 1), by omega⟩
    have e : a * 256 ^ (j + 1 + d) = 256 ^ j * (256 * (a * 256 ^ d)) := by
      rw [Nat.pow_add, Nat.pow_succ]
      simp only [Nat.mul_assoc, Nat.mul_comm, Nat.mul_left_comm]
    rw [e, Nat.mul_add_div (Nat.pow_pos (by decide))]
    omega
theorem beN_numN (s : List UInt8) : beN (numN s) s.length = s := by
  induction s with
  | nil => rfl
  | cons c s ih =>
    rw [numN_cons, List.length_cons, beN, beN_mod _ _ _ _ (Nat.le_refl _), ih]
    congr 1
    have hlt := numN_lt s
    have e : (c.toNat * 256 ^ s.length + numN s) / 256 ^ s.length = c.toNat := by
      rw [Nat.mul_comm, Nat.mul_add_div (Nat.pow_pos (by decide)), Nat.div_eq_of_lt hlt]
      rfl
    rw [e, Nat.mod_eq_of_lt c.toNat_lt]
    simp
theorem take4 (n : Nat) (t : List UInt8) : (beN n 4 ++ t).take 4 = beN n 4 := List.take_left' (beN_length n 4)
theorem firstL_rec (r t : List UInt8) (h : r.length ≤ 60000) : firstL (recN r ++ t) = some r := by
  have e1 : (recN r ++ t).take 4 = beN r.length 4 := by unfold recN; rw [List.append_assoc, List.append_assoc]; exact take4 _ _
  have e2 : ((recN r ++ t).drop 4).take 4 = beN (crc r) 4 := by
    unfold recN; rw [List.append_assoc, List.append_assoc, List.drop_left' (beN_length _ _)]; exact take4 _ _
  have e3 : ((recN r ++ t).drop 8).take r.length = r := by
    unfold recN
    rw [List.append_assoc, List.append_assoc]
    have : (beN r.length 4 ++ (beN (crc r) 4 ++ (r ++ t))).drop 8 = r ++ t := by
      rw [← List.append_assoc, List.drop_left' (by simp [beN_length])]
    rw [this]
    exact List.take_left' rfl
  have n1 : numN (beN r.length 4) = r.length := beN_num _ _ (by omega)
  have n2 : numN (beN (crc r) 4) = crc r := beN_num _ _ (crc_lt r)
  have hl := recN_length r
  unfold firstL
  rw [if_neg (by simp [hl]; omega), e1, n1, e2, n2, e3, if_neg (by simp [hl]; omega), if_pos rfl]
theorem firstL_some {b r : List UInt8} (h : firstL b = some r) : b = recN r ++ b.drop (r.length + 8) ∧ r.length ≤ 60000 := by
  unfold firstL at h
  split at h
  · cases h
  split at h
  · cases h
  split at h
  · rename_i h8 hp hc
    simp only [Option.some.injEq] at h
    have hl4 : (b.take 4).length = 4 := by simp; omega
    have hl8 : ((b.drop 4).take 4).length = 4 := by simp; omega
    have hrl : r.length = numN (b.take 4) := by rw [← h]; simp; omega
    rw [h] at hc
    have e1 : beN r.length 4 = b.take 4 := by rw [hrl]; have := beN_numN (b.take 4); rwa [hl4] at this
    have e2 : beN (crc r) 4 = (b.drop 4).take 4 := by rw [hc]; have := beN_numN ((b.drop 4).take 4); rwa [hl8] at this
    refine ⟨?_, by omega⟩
    unfold recN
    rw [e1, e2]
    have e3 : r = (b.drop 8).take r.length := by rw [hrl]; exact h.symm
    conv => rhs; arg 1; arg 2; rw [e3]
    have a1 : b.take 4 ++ (b.drop 4).take 4 = b.take 8 := by
      have := List.take_add (l := b) (i := 4) (j := 4)
      exact this.symm
    have a2 : b.take 8 ++ (b.drop 8).take r.length = b.take (8 + r.length) := (List.take_add (l := b) (i := 8) (j := r.length)).symm
    rw [a1, a2, Nat.add_comm 8, List.take_append_drop]
  · cases h
/-- Records, one behind the other. -/
def recsN (xs : List (List UInt8)) : List UInt8 := xs.flatMap recN
theorem recsN_snoc (xs : List (List UInt8)) (x : List UInt8) : recsN (xs ++ [x]) = recsN xs ++ recN x := by simp [recsN]
theorem recsN_append (xs ys : List (List UInt8)) : recsN (xs ++ ys) = recsN xs ++ recsN ys := by simp [recsN]
theorem parse (n : Nat) : ∀ b : List UInt8, b.length ≤ n → ∃ xs t, b = recsN xs ++ t ∧ (∀ x ∈ xs, x.length ≤ 60000) ∧ firstL t = none := by
  induction n with
  | zero =>
    intro b hb
    have : b = [] := List.eq_nil_of_length_eq_zero (by omega)
    subst this
    exact ⟨[], [], rfl, by simp, rfl⟩
  | succ n ih =>
    intro b hb
    cases hf : firstL b with
    | none => exact ⟨[], b, by simp [recsN], by simp, hf⟩
    | some r =>
      obtain ⟨e, hr⟩ := firstL_some hf
      have hl : (b.drop (r.length + 8)).length ≤ n := by
        have := congrArg List.length e
        rw [List.length_append, recN_length] at this
        omega
      obtain ⟨xs, t, h1, h2, h3⟩ := ih _ hl
      refine ⟨r :: xs, t, ?_, by simpa using ⟨hr, h2⟩, h3⟩
      rw [e, h1]
      simp [recsN]
theorem drop_recs (xs : List (List UInt8)) (t : List UInt8) (k : Nat) : (recsN xs ++ t).drop (recsN (xs.take k)).length = recsN (xs.drop k) ++ t := by
  have : recsN xs = recsN (xs.take k) ++ recsN (xs.drop k) := by rw [← recsN_append, List.take_append_drop]
  conv => lhs; arg 2; rw [this]
  rw [List.append_assoc]
  exact List.drop_left' rfl
theorem recs_at {xs : List (List UInt8)} {x : List UInt8} {k : Nat} (h : xs[k]? = some x) (t : List UInt8) : recsN (xs.drop k) ++ t = recN x ++ (recsN (xs.drop (k + 1)) ++ t) := by
  have hk := (List.getElem?_eq_some_iff.1 h)
  rw [List.drop_eq_getElem_cons hk.1, hk.2]
  simp [recsN]
theorem recs_take {xs : List (List UInt8)} {x : List UInt8} {k : Nat} (h : xs[k]? = some x) : (recsN (xs.take (k + 1))).length = (recsN (xs.take k)).length + (x.length + 8) := by
  rw [List.take_add_one, h]
  simp only [Option.toList]
  rw [recsN_snoc, List.length_append, recN_length]
theorem recs_len (xs : List (List UInt8)) (k : Nat) : (recsN (xs.take k)).length ≤ (recsN xs).length := by
  have : recsN xs = recsN (xs.take k) ++ recsN (xs.drop k) := by rw [← recsN_append, List.take_append_drop]
  rw [this, List.length_append]
  omega
set_option maxRecDepth 100000 in
set_option maxHeartbeats 1000000 in
theorem whole_any (xs : List (List UInt8)) (t : List UInt8) (hx : ∀ x ∈ xs, x.length ≤ 60000) (ht : firstL t = none) (s : List UInt8) (hs : s = recsN xs ++ t) (A : Option Addr) (cap : Nat) (fp : Nat → Prop) (hl : s.length ≤ 1000000000) (w : World) (h : BytesAt w (.slice A s.length cap) s fp) :
    Calls Tryd.prog 29 #[.slice A s.length cap] w fun e w' => e = .returned (.int .i64 (recsN xs).length) ∧ Bel w w' := by
  have H := Lib.hid h
  have HS := Lib.hid hs
  have HT := Lib.hid ht
  have HX := Lib.hid hx
  have HL := Lib.hid hl
  have hle : (recsN xs).length ≤ s.length := by rw [hs]; simp
  have HLE := Lib.hid hle
  clear h hs ht hx hl hle
  go_enter Tryd.func29, Tryd.ntmps29
  go_wp2
  go_loopw [2] (fun v wr => ∃ k : Nat, k ≤ xs.length ∧ v = .int .i64 (recsN (xs.take k)).length ∧ Hid (Bel w wr)) (fun v _ => s.length + 1 - (intOf v).toNat)
  case atStart => exact ⟨0, Nat.zero_le _, rfl, Bel.refl w⟩
  case round =>
    obtain ⟨k, hk, rfl, HB⟩ := hrel
    have hat : (recsN (xs.take k)).length ≤ s.length := Nat.le_trans (recs_len xs k) HLE.out
    have hfrom := (H.out.bel HB.out).from_ (recsN (xs.take k)).length hat
    have hdr : s.drop (recsN (xs.take k)).length = recsN (xs.drop k) ++ t := by rw [HS.out]; exact drop_recs xs t k
    rw [hdr] at hfrom
    have hln : s.length - (recsN (xs.take k)).length = (recsN (xs.drop k) ++ t).length := by rw [← hdr, List.length_drop]
    have hsl := fun w => slice_from A s.length cap (recsN (xs.take k)).length (recsN (xs.take k)).length rfl hat w
    rw [hln] at hsl hfrom
    generalize (if cap = (recsN (xs.take k)).length then A else A.map (·.add (recsN (xs.take k)).length)) = A2 at *
    have HF := Lib.hid (first_any _ A2 _ fp (by have := HL.out; omega) wr hfrom)
    have hI : ((recsN (xs.take k)).length : Int) ≤ s.length := by omega
    have hsI : (s.length : Int) ≤ 1000000000 := by have := HL.out; omega
    clear hfrom
    by_cases hlt : k < xs.length
    · obtain ⟨x, hxk⟩ : ∃ x, xs[k]? = some x := ⟨_, List.getElem?_eq_getElem hlt⟩
      have hxl : x.length ≤ 60000 := HX.out x (List.mem_of_getElem? hxk)
      have hfx : firstL (recsN (xs.drop k) ++ t) = some x := by rw [recs_at hxk t]; exact firstL_rec _ _ hxl
      have hnx := recs_take hxk
      have hle2 := Nat.le_trans (recs_len xs (k + 1)) HLE.out
      rw [hfx] at HF
      have HNX := Lib.hid hnx
      have HLE2 := Lib.hid hle2
      have hxI : (x.length : Int) ≤ 60000 := by omega
      clear hfx hdr hln hxk hnx hle2
      generalize (recsN (xs.take k)).length = at_ at *
      generalize (recsN (xs.drop k) ++ t) = d at *
      go_wp2_with (go_at_call 61; refine HF.out.mono ?_; rintro e w1 ⟨hb1, A3, rfl, hb3⟩)
      have HB1 := Lib.hid (HB.out.then_ hb1)
      clear hb1 hb3
      go_wp2
      go_roundw
      case rel => exact ⟨k + 1, by omega, by rw [HNX.out]; go_num, HB1.out⟩
      case measure => have h1 := HNX.out; have h2 := HLE2.out; rw [h1] at h2; simp [intOf]; omega
    · obtain rfl : k = xs.length := by omega
      have hfx : firstL (recsN (xs.drop xs.length) ++ t) = none := by rw [List.drop_length]; simpa [recsN] using HT.out
      rw [hfx] at HF
      have hfin : (recsN (xs.take xs.length)).length = (recsN xs).length := by rw [List.take_length]
      have HFIN := Lib.hid hfin
      clear hfx hdr hln hfin
      generalize (recsN (xs.take xs.length)).length = at_ at *
      generalize (recsN (xs.drop xs.length) ++ t) = d at *
      go_wp2_with (go_at_call 61; refine HF.out.mono ?_; rintro e w1 ⟨hb1, v, rfl⟩)
      have HB1 := Lib.hid (HB.out.then_ hb1)
      clear hb1
      go_wp2
      go_ret
      exact ⟨ret_int (by rw [HFIN.out]), HB1.out⟩
end Go.Proofs.YthmigmiojifnkaaDoor
