/-
  The log: the record of bytes.
-/
import Derived.Test.YtiajggmnfaidjaaGreatDoorOc
set_option linter.unusedVariables false
set_option linter.unusedSimpArgs false
set_option linter.unusedVariables false
set_option linter.unusedSimpArgs false
namespace Go.Proofs.YtiajggmnfaidjaaGreatDoor
open Go.RowKit

def recN (s : List UInt8) : List UInt8 := beN s.length 4 ++ beN (crc s) 4 ++ s
theorem recN_length (s : List UInt8) : (recN s).length = s.length + 8 := by simp [recN, beN_length]; omega
set_option maxRecDepth 100000 in
theorem putI_one (n : Nat) (h : n < 2 ^ 32) (B : Nat) (w : World) (hB : w.cell? ⟨B, 0, none⟩ = some (.int .i64 n)) : Calls Tryz.prog 33 #[.slice (some ⟨B, 0, none⟩) 1 1] w (GivesRow w.heap.size 4 ((beN n 4).map bv) w) := by
  obtain ⟨i0, hi0, hz0, hz1, hz2⟩ := info_parts infoU8
  have HF := Lib.hid (fixed_any n 4 (by omega) (by decide) (by decide) (by omega) w)
  have hI : (n : Int) < 4294967296 := by omega
  go_enter Tryz.func33, Tryz.ntmps33
  go_wp2
  refine wp_loop_rounds 2 ?_
  rw [rounds_succ]
  go_wp2_with fail
  refine HF.out.mono ?_
  rintro e w1 ⟨A, c, rfl, hown, hbel⟩
  have HO := Lib.hid hown
  have HB := Lib.hid hbel
  clear hown hbel
  go_wp2_with (at_builtin; refine wpList_append_any _ rfl (.tmp 19) (.tmp 20) _ rfl w.heap.size 5 i0 _ 1 1 Tryz.underlying43 hi0 hz0 hz1 hz2 rfl (by omega) (.slice none 0 0) 0 [] rfl ?c1 w1.heap.size A 4 c ((beN n 4).map bv) rfl ?c2 (bv_one _) ?c3 ?c4 ?c5 ?_)
  case c1 => exact World.ownsRow_nil _ _ _ _
  case c2 => exact Reads.of_own HO.out
  case c3 => unfold maxLen; omega
  case c4 => omega
  case c5 => exact HB.out.size
  intro v1 w2 hown2 hg2 hat2
  have hown3 : w2.ownsRow w.heap.size 5 1 v1 (3 + 1) ((beN n 4).map bv) := by simpa using hown2
  obtain ⟨g, cap', rfl⟩ := ownsRow_succ hown3
  have HO3 := Lib.hid hown3
  have HB3 : Hid (Bel w w2) := Below.grown HB.out hg2 HB.out.size (fun j e => by cases e)
  clear hown2 hown3 hg2 hat2
  go_wp2
  rw [rounds_succ]
  go_wp2
  go_ret
  exact ⟨_, _, rfl, HO3.out, HB3.out⟩
set_option maxRecDepth 100000 in
theorem putU_one (n : Nat) (h : n < 2 ^ 32) (B : Nat) (w : World) (hB : w.cell? ⟨B, 0, none⟩ = some (.int .u32 n)) : Calls Tryz.prog 34 #[.slice (some ⟨B, 0, none⟩) 1 1] w (GivesRow w.heap.size 4 ((beN n 4).map bv) w) := by
  obtain ⟨i0, hi0, hz0, hz1, hz2⟩ := info_parts infoU8
  have HF := Lib.hid (fixed_any n 4 (by omega) (by decide) (by decide) (by omega) w)
  have hI : (n : Int) < 4294967296 := by omega
  go_enter Tryz.func34, Tryz.ntmps34
  go_wp2
  refine wp_loop_rounds 2 ?_
  rw [rounds_succ]
  go_wp2_with fail
  refine HF.out.mono ?_
  rintro e w1 ⟨A, c, rfl, hown, hbel⟩
  have HO := Lib.hid hown
  have HB := Lib.hid hbel
  clear hown hbel
  go_wp2_with (at_builtin; refine wpList_append_any _ rfl (.tmp 19) (.tmp 20) _ rfl w.heap.size 5 i0 _ 1 1 Tryz.underlying43 hi0 hz0 hz1 hz2 rfl (by omega) (.slice none 0 0) 0 [] rfl ?c1 w1.heap.size A 4 c ((beN n 4).map bv) rfl ?c2 (bv_one _) ?c3 ?c4 ?c5 ?_)
  case c1 => exact World.ownsRow_nil _ _ _ _
  case c2 => exact Reads.of_own HO.out
  case c3 => unfold maxLen; omega
  case c4 => omega
  case c5 => exact HB.out.size
  intro v1 w2 hown2 hg2 hat2
  have hown3 : w2.ownsRow w.heap.size 5 1 v1 (3 + 1) ((beN n 4).map bv) := by simpa using hown2
  obtain ⟨g, cap', rfl⟩ := ownsRow_succ hown3
  have HO3 := Lib.hid hown3
  have HB3 : Hid (Bel w w2) := Below.grown HB.out hg2 HB.out.size (fun j e => by cases e)
  clear hown2 hown3 hg2 hat2
  go_wp2
  rw [rounds_succ]
  go_wp2
  go_ret
  exact ⟨_, _, rfl, HO3.out, HB3.out⟩
def GivesRec (s : List UInt8) (w : World) (e : Ending) (w' : World) : Prop := ∃ A c, e = .returned (.tuple #[.slice A (s.length + 8) c, .int .i64 0]) ∧ w'.ownsRow w.heap.size 5 1 (.slice A (s.length + 8) c) (s.length + 8) ((recN s).map bv) ∧ Bel w w'
theorem record_long (s : List UInt8) (A : Option Addr) (cap : Nat) (hs : 60000 < s.length) (w : World) : Calls Tryz.prog 13 #[.slice A s.length cap] w fun e w' => e = .returned (.tuple #[.slice none 0 0, .int .i64 3]) ∧ w = w' := by
  go_enter Tryz.func13, Tryz.ntmps13
  go_wp2
  go_ret2
  exact ⟨rfl, rfl⟩
theorem Reads.belHeap {w w' : World} {size n : Nat} {A : Option Addr} {xs : List Value} (h : Reads w w.heap.size size A n xs) (hb : Bel w w') : Reads w' w'.heap.size size A n xs := (h.below hb).more hb.size
set_option maxRecDepth 100000 in
set_option maxHeartbeats 1000000 in
theorem record_any (s : List UInt8) (A : Option Addr) (cap : Nat) (hs : s.length ≤ 60000) (w : World) (hr : Reads w w.heap.size 1 A s.length (s.map bv)) : Calls Tryz.prog 13 #[.slice A s.length cap] w (GivesRec s w) := by
  obtain ⟨i0, hi0, hz0, hz1, hz2⟩ := info_parts infoU8
  have HR := Lib.hid hr
  have hlen : (s.length : Int) ≤ 60000 := by omega
  have hk : ¬ 60000 < s.length := by omega
  clear hr
  go_enter Tryz.func13, Tryz.ntmps13
  go_wp2_with fail
  refine (putI_one s.length (by omega) w.heap.size _ (by go_simp)).mono ?_
  rintro e w1 ⟨A1, c1, rfl, hown1, hbel1⟩
  have hb1 : Bel w w1 := ((Bel.refl w).alloc _).trans (Below.mono hbel1 (by simp))
  have HB1 := Lib.hid hb1
  have HO1 := Lib.hid (ownsRow_base (b := w.heap.size) hown1 (by simp))
  have HS := Lib.hid (sum_one s A cap w1.heap.size (by omega) (w1.alloc (.cells #[.slice A s.length cap] 43)) (HR.out.belHeap (hb1.alloc _)) (by simp))
  clear hown1 hbel1 hb1
  go_wp2_with fail
  refine HS.out.mono ?_
  rintro e w' ⟨rfl, rfl⟩
  go_wp2_with fail
  refine (putU_one (crc s) (crc_lt s) (w1.heap.size + 1) _ (by go_simp)).mono ?_
  rintro e w2 ⟨A2, c2, rfl, hown2, hbel2⟩
  have hb12 : Bel w1 w2 := ((((Bel.refl w1).alloc _).alloc _)).trans (Below.mono hbel2 (by simp; omega))
  have HB12 := Lib.hid hb12
  have HO2 := Lib.hid hown2
  clear hown2 hbel2 hb12
  go_wp2_with (at_builtin; refine wpList_append_any _ rfl (.tmp 10) (.tmp 15) _ rfl w.heap.size 5 i0 _ 1 1 Tryz.underlying43 hi0 hz0 hz1 hz2 rfl (by omega) (.slice A1 4 c1) 4 ((beN s.length 4).map bv) rfl ?c1 w2.heap.size A2 4 c2 ((beN (crc s) 4).map bv) rfl ?c2 (bv_one _) ?c3 ?c4 ?c5 ?_)
  case c1 => exact ownsRow_bel HO1.out HB12.out
  case c2 => exact Reads.of_own HO2.out
  case c3 => unfold maxLen; omega
  case c4 => omega
  case c5 => exact Nat.le_trans HB1.out.size HB12.out.size
  intro v3 w3 hown3 hg3 hat3
  have hb3 : Bel w w3 := Below.grown (HB1.out.then_ HB12.out) hg3 (Nat.le_trans HB1.out.size HB12.out.size) (fun j e => (HO1.out.lt j e).1)
  have hown3' : w3.ownsRow w.heap.size 5 1 v3 (7 + 1) ((beN s.length 4 ++ beN (crc s) 4).map bv) := by simpa using hown3
  obtain ⟨g3, c3, rfl⟩ := ownsRow_succ hown3'
  have HB3 := Lib.hid hb3
  have HO3 := Lib.hid hown3'
  clear hown3 hown3' hg3 hat3 hb3
  go_wp2_with (at_builtin; refine wpList_append_any _ rfl (.tmp 16) (.tmp 17) _ rfl w.heap.size 5 i0 _ 1 1 Tryz.underlying43 hi0 hz0 hz1 hz2 rfl (by omega) (.slice (some ⟨g3, 0, none⟩) (7 + 1) c3) (7 + 1) ((beN s.length 4 ++ beN (crc s) 4).map bv) rfl ?d1 w3.heap.size A s.length cap (s.map bv) rfl ?d2 (bv_one _) ?d3 ?d4 ?d5 ?_)
  case d1 => exact HO3.out
  case d2 => exact HR.out.belHeap HB3.out
  case d3 => unfold maxLen; omega
  case d4 => omega
  case d5 => exact HB3.out.size
  intro v4 w4 hown4 hg4 hat4
  have hb4 : Bel w w4 := Below.grown HB3.out hg4 HB3.out.size (fun j e => (HO3.out.lt j e).1)
  have hown4' : w4.ownsRow w.heap.size 5 1 v4 ((s.length + 7) + 1) ((recN s).map bv) := by
    have e : 7 + 1 + s.length = s.length + 7 + 1 := by omega
    rw [e] at hown4
    simpa [recN] using hown4
  obtain ⟨g4, c4, rfl⟩ := ownsRow_succ hown4'
  have HB4 := Lib.hid hb4
  have HO4 := Lib.hid hown4'
  clear hown4 hown4' hg4 hat4 hb4
  go_wp2
  go_ret2
  exact ⟨_, c4, rfl, HO4.out, HB4.out⟩
end Go.Proofs.YtiajggmnfaidjaaGreatDoor

/-
  The log: the record with which bytes begin; the whole part.
-/
set_option linter.unusedVariables false
set_option linter.unusedSimpArgs false
namespace Go.Proofs.YtiajggmnfaidjaaGreatDoor
open Go.RowKit

theorem add_free {b off : Nat} (l : Nat) : (Addr.add ⟨b, off, none⟩ l) = ⟨b, off + l, none⟩ := by unfold Addr.add; split <;> simp_all
theorem addr_free {a : Addr} (h : a.spot = none) : a = ⟨a.block, a.off, none⟩ := by cases a; simp at h; subst h; rfl
section
variable {w : World} {A : Option Addr} {n cap : Nat} {s : List UInt8} {fp : Nat → Prop}
theorem BytesAt.mid (h : BytesAt w (.slice A n cap) s fp) (l m : Nat) (hlm : l + m ≤ n) : BytesAt w (.slice (if m = 0 then A else A.map (·.add l)) m m) ((s.drop l).take m) fp := by
  obtain ⟨A', cap', h1, h2, h3, h4, h4', h5⟩ := h
  simp only [Value.slice.injEq] at h1
  obtain ⟨rfl, rfl, rfl⟩ := h1
  have hl : ((s.drop l).take m).length = m := by simp; omega
  refine ⟨_, m, by rw [hl], by omega, by omega, fun ha => ?_, fun a ha => ?_, fun hn => ?_⟩
  · by_cases hm : m = 0
    · exact hm
    · rw [if_neg hm] at ha
      cases A with
      | none => have := h4 rfl; omega
      | some a => simp at ha
  · by_cases hm : m = 0
    · rw [if_pos hm] at ha; exact h4' a ha
    · rw [if_neg hm] at ha
      cases A with
      | none => simp at ha
      | some a0 =>
        have h0 := h4' a0 rfl
        rw [addr_free h0] at ha
        simp [add_free] at ha
        rw [← ha]
  · rw [hl] at hn
    obtain ⟨b, off, cs, fz, rfl, h6', h7, h8⟩ := h5 (by omega)
    refine ⟨b, off + l, cs, fz, by rw [if_neg (by omega)]; simp [add_free], h6', h7, fun j c hj => ?_⟩
    rw [List.getElem?_take] at hj
    split at hj
    · rw [List.getElem?_drop] at hj
      rw [Nat.add_assoc]
      exact h8 _ c hj
    · simp at hj
theorem BytesAt.from_ (h : BytesAt w (.slice A n cap) s fp) (l : Nat) (hl : l ≤ n) : BytesAt w (.slice (if cap = l then A else A.map (·.add l)) (n - l) (cap - l)) (s.drop l) fp := by
  obtain ⟨A', cap', h1, h2, h3, h4, h4', h5⟩ := h
  simp only [Value.slice.injEq] at h1
  obtain ⟨rfl, rfl, rfl⟩ := h1
  refine ⟨(if cap = l then A else A.map (·.add l)), cap - l, by rw [List.length_drop], by simp; omega, by omega, fun ha => ?_, fun a ha => ?_, fun hn => ?_⟩
  · by_cases hm : cap = l
    · omega
    · rw [if_neg hm] at ha
      cases A with
      | none => have := h4 rfl; omega
      | some a => simp at ha
  · by_cases hm : cap = l
    · rw [if_pos hm] at ha; exact h4' a ha
    · rw [if_neg hm] at ha
      cases A with
      | none => simp at ha
      | some a0 =>
        have h0 := h4' a0 rfl
        rw [addr_free h0] at ha
        simp [add_free] at ha
        rw [← ha]
  · simp at hn
    obtain ⟨b, off, cs, fz, rfl, h6', h7, h8⟩ := h5 (by omega)
    refine ⟨b, off + l, cs, fz, by rw [if_neg (by omega)]; simp [add_free], h6', h7, fun j c hj => ?_⟩
    rw [List.getElem?_drop] at hj
    rw [Nat.add_assoc]
    exact h8 _ c hj
end
theorem sizeB (w : World) : (sizeOf (Tryz.prog.elem 43)).run Tryz.prog w = .ok 1 w := by kernel_rfl
theorem slice_mid (A : Option Addr) (n cap l m : Nat) (lI hI : Int) (hl : lI = l) (hh : hI = (l + m : Nat)) (hlm : l + m ≤ cap) (w : World) :
    (Instr.slice 43 (.slice A n cap) (some (.int .i64 lI)) (some (.int .i64 hI)) (some (.int .i64 hI))).run Tryz.prog w = .ok (.slice (if m = 0 then A else A.map (·.add l)) m m) w := by
  subst hl hh
  rw [run_slice_lhm w 43 A n cap (by kernel_rfl) .i64 .i64 .i64 l (l + m : Nat) (l + m : Nat) (by omega) (by omega) (by omega) (by omega), sizeB]
  show Result.ok (sliced A l (l + m) (l + m) 1) w = _
  have e : (l + m = l) = (m = 0) := by apply propext; omega
  unfold sliced
  simp [e]
theorem slice_first (A : Option Addr) (n cap m : Nat) (hI : Int) (hh : hI = m) (hlm : m ≤ cap) (w : World) :
    (Instr.slice 43 (.slice A n cap) none (some (.int .i64 hI)) (some (.int .i64 hI))).run Tryz.prog w = .ok (.slice A m m) w := by
  subst hh
  rw [run_slice_hm w 43 A n cap (by kernel_rfl) .i64 .i64 m m (by omega) (by omega) (by omega), sizeB]
  have e : (fun x : Addr => x.add 0) = id := by funext x; simp [Addr.add]
  show Result.ok (sliced A 0 m m 1) w = _
  unfold sliced
  simp [e]
theorem slice_from (A : Option Addr) (n cap l : Nat) (lI : Int) (hl : lI = l) (hln : l ≤ n) (w : World) :
    (Instr.slice 43 (.slice A n cap) (some (.int .i64 lI)) none none).run Tryz.prog w = .ok (.slice (if cap = l then A else A.map (·.add l)) (n - l) (cap - l)) w := by
  subst hl
  rw [run_slice_l w 43 A n cap (by kernel_rfl) .i64 l (by omega) (by omega), sizeB]
  simp [Result.andThen, sliced]

/-- The record's bytes with which others begin. -/
def firstL (b : List UInt8) : Option (List UInt8) :=
  if b.length < 8 then none else if 60000 < numN (b.take 4) ∨ b.length - 8 < numN (b.take 4) then none
  else if crc ((b.drop 8).take (numN (b.take 4))) = numN ((b.drop 4).take 4) then some ((b.drop 8).take (numN (b.take 4))) else none
def GivesFirst (o : Option (List UInt8)) (fp : Nat → Prop) (w : World) (e : Ending) (w' : World) : Prop :=
  Bel w w' ∧ match o with
  | some o => ∃ A, e = .returned (.tuple #[.slice A o.length o.length, .bool true]) ∧ BytesAt w' (.slice A o.length o.length) o fp
  | none => ∃ v, e = .returned (.tuple #[v, .bool false])
set_option maxRecDepth 100000 in
set_option maxHeartbeats 1000000 in
theorem first_any (s : List UInt8) (A : Option Addr) (cap : Nat) (fp : Nat → Prop) (hs : s.length ≤ 1000000000) (w : World) (h : BytesAt w (.slice A s.length cap) s fp) : Calls Tryz.prog 47 #[.slice A s.length cap] w (GivesFirst (firstL s) fp w) := by
  have hcap : s.length ≤ cap := by obtain ⟨A', cap', h1, h2, _⟩ := id h; simp only [Value.slice.injEq] at h1; obtain ⟨-, -, rfl⟩ := h1; exact h2
  by_cases h8 : s.length < 8
  · have hf : firstL s = none := by unfold firstL; rw [if_pos h8]
    rw [hf]
    clear h hcap hf
    go_enter Tryz.func47, Tryz.ntmps47
    go_wp2
    refine wp_scope_forward 0 rfl ?_
    go_wp2
    go_step3
    refine ⟨rfl, ?_⟩
    go_wp2
    rw [Exit.noGoto_ret]
    go_ret2
    exact ⟨Bel.refl _, _, rfl⟩
  have hl4 : (s.take 4).length = 4 := by simp; omega
  have hl8 : ((s.drop 4).take 4).length = 4 := by simp; omega
  have hb4 := h.take 4 (by omega)
  have hb8 := h.mid 4 4 (by omega)
  have s4 := fun w => slice_first A s.length cap 4 4 rfl (by omega) w
  have s8 := fun w => slice_mid A s.length cap 4 4 4 8 rfl rfl (by omega) w
  simp only [show (4 : Nat) = 0 ↔ False from by decide, if_false] at hb8 s8
  have R4 := hb4.reads.2
  have R8 := hb8.reads.2
  rw [hl4] at R4
  rw [hl8] at R8
  have c4 := readFixed_any (s.take 4) A 4 (by omega) (by omega) w (by rw [hl4]; exact R4)
  have c8 := readFixed_any ((s.drop 4).take 4) (A.map (·.add 4)) 4 (by omega) (by omega) w (by rw [hl8]; exact R8)
  rw [hl4] at c4
  rw [hl8] at c8
  have C4 := Lib.hid c4
  have C8 := Lib.hid c8
  have hm4 : numN (s.take 4) < 4294967296 := by have := numN_lt (s.take 4); rw [hl4] at this; exact this
  have hm8 : numN ((s.drop 4).take 4) < 4294967296 := by have := numN_lt ((s.drop 4).take 4); rw [hl8] at this; exact this
  have hfl : firstL s = if 60000 < numN (s.take 4) ∨ s.length - 8 < numN (s.take 4) then none
      else if crc ((s.drop 8).take (numN (s.take 4))) = numN ((s.drop 4).take 4) then some ((s.drop 8).take (numN (s.take 4))) else none := by
    conv => lhs; unfold firstL
    rw [if_neg h8]
  rw [hfl]
  clear hfl c4 c8 R4 R8 hb4 hb8 hl4 hl8
  generalize numN (s.take 4) = many at *
  generalize numN ((s.drop 4).take 4) = sum at *
  have H := Lib.hid h
  have hlenI : (8 : Int) ≤ s.length := by omega
  have hlenH : (s.length : Int) ≤ 1000000000 := by omega
  by_cases hbig : 60000 < many
  · have hp : 60000 < many ∨ s.length - 8 < many := .inl hbig
    rw [if_pos hp]
    clear h hcap hp
    go_enter Tryz.func47, Tryz.ntmps47
    go_wp2
    refine wp_scope_forward 0 rfl ?_
    go_wp2_with fail
    refine C4.out.mono ?_
    rintro e w' ⟨rfl, rfl⟩
    go_wp2_with fail
    refine C8.out.mono ?_
    rintro e w' ⟨rfl, rfl⟩
    go_wp2
    go_step3
    refine ⟨rfl, ?_⟩
    go_wp2
    rw [Exit.noGoto_ret]
    go_ret2
    exact ⟨Bel.refl _, _, rfl⟩
  by_cases hlong : s.length - 8 < many
  · have hp : 60000 < many ∨ s.length - 8 < many := .inr hlong
    rw [if_pos hp]
    have hsubI : (s.length : Int) - 8 < many := by omega
    clear h hcap hp
    go_enter Tryz.func47, Tryz.ntmps47
    go_wp2
    refine wp_scope_forward 0 rfl ?_
    go_wp2_with fail
    refine C4.out.mono ?_
    rintro e w' ⟨rfl, rfl⟩
    go_wp2_with fail
    refine C8.out.mono ?_
    rintro e w' ⟨rfl, rfl⟩
    go_wp2
    go_step3
    refine ⟨rfl, ?_⟩
    go_wp2
    rw [Exit.noGoto_ret]
    go_ret2
    exact ⟨Bel.refl _, _, rfl⟩
  have hp : ¬ (60000 < many ∨ s.length - 8 < many) := by omega
  rw [if_neg hp]
  have hout := h.mid 8 many (by omega)
  have hol : ((s.drop 8).take many).length = many := by simp; omega
  have sOut := fun w => slice_mid A s.length cap 8 many 8 (8 + (many : Int)) rfl (by simp) (by omega) w
  generalize (if many = 0 then A else A.map (·.add 8)) = A2 at *
  have hsubI : (many : Int) ≤ (s.length : Int) - 8 := by omega
  have hbigI : (many : Int) ≤ 60000 := by omega
  generalize (s.drop 8).take many = o at *
  have HOUT := Lib.hid hout
  have HOL := Lib.hid hol
  have hb1 : Bel w (w.alloc (.cells #[.slice A2 many many] 43)) := (Bel.refl w).alloc _
  have hsum := sum_one o A2 many w.heap.size (by omega) (w.alloc (.cells #[.slice A2 many many] 43)) ((hout.bel hb1).reads.2) (by rw [hol]; simp)
  have HSUM := Lib.hid hsum
  have hcl := crc_lt o
  have HE : Hid (((crc o : Int) = (sum : Int)) ↔ crc o = sum) := by show _ ↔ _; omega
  clear h hcap hp hout hol hb1 hsum hlong hbig
  by_cases heq : crc o = sum
  · simp only [heq, if_true]
    subst heq
    go_enter Tryz.func47, Tryz.ntmps47
    go_wp2
    refine wp_scope_forward 0 rfl ?_
    go_wp2_with fail
    refine C4.out.mono ?_
    rintro e w' ⟨rfl, rfl⟩
    go_wp2_with fail
    refine C8.out.mono ?_
    rintro e w' ⟨rfl, rfl⟩
    go_wp2_with fail
    refine HSUM.out.mono ?_
    rintro e w' ⟨rfl, rfl⟩
    go_wp2
    rw [jump_ret]
    go_ret2
    refine ⟨(Bel.refl _).alloc _, A2, by rw [HOL.out]; rfl, ?_⟩
    rw [HOL.out]
    exact HOUT.out.bel ((Bel.refl _).alloc _)
  · simp only [heq, if_false]
    have hne : ((crc o : Int) == (sum : Int)) = false := beq_eq_false_iff_ne.2 (by omega)
    go_enter Tryz.func47, Tryz.ntmps47
    go_wp2
    refine wp_scope_forward 0 rfl ?_
    go_wp2_with fail
    refine C4.out.mono ?_
    rintro e w' ⟨rfl, rfl⟩
    go_wp2_with fail
    refine C8.out.mono ?_
    rintro e w' ⟨rfl, rfl⟩
    go_wp2_with fail
    refine HSUM.out.mono ?_
    rintro e w' ⟨rfl, rfl⟩
    go_wp2
    rw [jump_ret]
    go_ret2
    exact ⟨(Bel.refl _).alloc _, _, rfl⟩
end Go.Proofs.YtiajggmnfaidjaaGreatDoor

/-
  The log: bytes as records and a rest; the whole part.
-/
set_option linter.unusedVariables false
set_option linter.unusedSimpArgs false
namespace Go.Proofs.YtiajggmnfaidjaaGreatDoor
open Go.RowKit

theorem numFold (s : List UInt8) : ∀ m : Nat, s.foldl (fun n c => n * 256 + c.toNat) m = m * 256 ^ s.length + numN s := by
  induction s with
  | nil => intro m; simp [numN]
  | cons c s ih =>
    intro m
    have h0 : numN (c :: s) = (0 * 256 + c.toNat) * 256 ^ s.length + numN s := by
      show (c :: s).foldl _ 0 = _
      rw [List.foldl_cons, ih]
    rw [List.foldl_cons, ih, h0, List.length_cons, Nat.pow_succ, Nat.add_mul, Nat.add_mul, Nat.mul_assoc, Nat.mul_comm 256 (256 ^ s.length)]
    omega
theorem numN_cons (c : UInt8) (s : List UInt8) : numN (c :: s) = c.toNat * 256 ^ s.length + numN s := by
  have := numFold s (0 * 256 + c.toNat)
  have h0 : numN (c :: s) = (0 * 256 + c.toNat) * 256 ^ s.length + numN s := by
    show (c :: s).foldl _ 0 = _
    rw [List.foldl_cons, this]
  rw [h0]
  simp
theorem beN_mod (a m : Nat) : ∀ k j, j ≤ k → beN (a * 256 ^ k + m) j = beN m j
  | k, 0, _ => rfl
  | k, j + 1, h => by
    rw [beN, beN, beN_mod a m k j (by omega)]
    congr 2
    obtain ⟨d, rfl⟩ : ∃ d, k = j + 1 + d := ⟨k - (j + 1), by omega⟩
    have e : a * 256 ^ (j + 1 + d) = 256 ^ j * (256 * (a * 256 ^ d)) := by
      rw [Nat.pow_add, Nat.pow_succ]
      simp only [Nat.mul_assoc, Nat.mul_comm, Nat.mul_left_comm]
    rw [e, Nat.mul_add_div (Nat.pow_pos (by decide))]
    omega
theorem beN_numN (s : List UInt8) : beN (numN s) s.length = s := by
  induction s with
  | nil => rfl
  | cons c s ih =>
    rw [numN_cons, List.length_cons, beN, beN_mod _ _ _ _ (Nat.le_refl _), ih]
    congr 1
    have hlt := numN_lt s
    have e : (c.toNat * 256 ^ s.length + numN s) / 256 ^ s.length = c.toNat := by
      rw [Nat.mul_comm, Nat.mul_add_div (Nat.pow_pos (by decide)), Nat.div_eq_of_lt hlt]
      rfl
    rw [e, Nat.mod_eq_of_lt c.toNat_lt]
    simp
theorem take4 (n : Nat) (t : List UInt8) : (beN n 4 ++ t).take 4 = beN n 4 := List.take_left' (beN_length n 4)
theorem firstL_rec (r t : List UInt8) (h : r.length ≤ 60000) : firstL (recN r ++ t) = some r := by
  have e1 : (recN r ++ t).take 4 = beN r.length 4 := by unfold recN; rw [List.append_assoc, List.append_assoc]; exact take4 _ _
  have e2 : ((recN r ++ t).drop 4).take 4 = beN (crc r) 4 := by
    unfold recN; rw [List.append_assoc, List.append_assoc, List.drop_left' (beN_length _ _)]; exact take4 _ _
  have e3 : ((recN r ++ t).drop 8).take r.length = r := by
    unfold recN
    rw [List.append_assoc, List.append_assoc]
    have : (beN r.length 4 ++ (beN (crc r) 4 ++ (r ++ t))).drop 8 = r ++ t := by
      rw [← List.append_assoc, List.drop_left' (by simp [beN_length])]
    rw [this]
    exact List.take_left' rfl
  have n1 : numN (beN r.length 4) = r.length := beN_num _ _ (by omega)
  have n2 : numN (beN (crc r) 4) = crc r := beN_num _ _ (crc_lt r)
  have hl := recN_length r
  unfold firstL
  rw [if_neg (by simp [hl]; omega), e1, n1, e2, n2, e3, if_neg (by simp [hl]; omega), if_pos rfl]
theorem firstL_some {b r : List UInt8} (h : firstL b = some r) : b = recN r ++ b.drop (r.length + 8) ∧ r.length ≤ 60000 := by
  unfold firstL at h
  split at h
  · cases h
  split at h
  · cases h
  split at h
  · rename_i h8 hp hc
    simp only [Option.some.injEq] at h
    have hl4 : (b.take 4).length = 4 := by simp; omega
    have hl8 : ((b.drop 4).take 4).length = 4 := by simp; omega
    have hrl : r.length = numN (b.take 4) := by rw [← h]; simp; omega
    rw [h] at hc
    have e1 : beN r.length 4 = b.take 4 := by rw [hrl]; have := beN_numN (b.take 4); rwa [hl4] at this
    have e2 : beN (crc r) 4 = (b.drop 4).take 4 := by rw [hc]; have := beN_numN ((b.drop 4).take 4); rwa [hl8] at this
    refine ⟨?_, by omega⟩
    unfold recN
    rw [e1, e2]
    have e3 : r = (b.drop 8).take r.length := by rw [hrl]; exact h.symm
    conv => rhs; arg 1; arg 2; rw [e3]
    have a1 : b.take 4 ++ (b.drop 4).take 4 = b.take 8 := by
      have := List.take_add (l := b) (i := 4) (j := 4)
      exact this.symm
    have a2 : b.take 8 ++ (b.drop 8).take r.length = b.take (8 + r.length) := (List.take_add (l := b) (i := 8) (j := r.length)).symm
    rw [a1, a2, Nat.add_comm 8, List.take_append_drop]
  · cases h
/-- Records, one behind the other. -/
def recsN (xs : List (List UInt8)) : List UInt8 := xs.flatMap recN
theorem recsN_snoc (xs : List (List UInt8)) (x : List UInt8) : recsN (xs ++ [x]) = recsN xs ++ recN x := by simp [recsN]
theorem recsN_append (xs ys : List (List UInt8)) : recsN (xs ++ ys) = recsN xs ++ recsN ys := by simp [recsN]
theorem parse (n : Nat) : ∀ b : List UInt8, b.length ≤ n → ∃ xs t, b = recsN xs ++ t ∧ (∀ x ∈ xs, x.length ≤ 60000) ∧ firstL t = none := by
  induction n with
  | zero =>
    intro b hb
    have : b = [] := List.eq_nil_of_length_eq_zero (by omega)
    subst this
    exact ⟨[], [], rfl, by simp, rfl⟩
  | succ n ih =>
    intro b hb
    cases hf : firstL b with
    | none => exact ⟨[], b, by simp [recsN], by simp, hf⟩
    | some r =>
      obtain ⟨e, hr⟩ := firstL_some hf
      have hl : (b.drop (r.length + 8)).length ≤ n := by
        have := congrArg List.length e
        rw [List.length_append, recN_length] at this
        omega
      obtain ⟨xs, t, h1, h2, h3⟩ := ih _ hl
      refine ⟨r :: xs, t, ?_, by simpa using ⟨hr, h2⟩, h3⟩
      rw [e, h1]
      simp [recsN]
theorem drop_recs (xs : List (List UInt8)) (t : List UInt8) (k : Nat) : (recsN xs ++ t).drop (recsN (xs.take k)).length = recsN (xs.drop k) ++ t := by
  have : recsN xs = recsN (xs.take k) ++ recsN (xs.drop k) := by rw [← recsN_append, List.take_append_drop]
  conv => lhs; arg 2; rw [this]
  rw [List.append_assoc]
  exact List.drop_left' rfl
theorem recs_at {xs : List (List UInt8)} {x : List UInt8} {k : Nat} (h : xs[k]? = some x) (t : List UInt8) : recsN (xs.drop k) ++ t = recN x ++ (recsN (xs.drop (k + 1)) ++ t) := by
  have hk := (List.getElem?_eq_some_iff.1 h)
  rw [List.drop_eq_getElem_cons hk.1, hk.2]
  simp [recsN]
theorem recs_take {xs : List (List UInt8)} {x : List UInt8} {k : Nat} (h : xs[k]? = some x) : (recsN (xs.take (k + 1))).length = (recsN (xs.take k)).length + (x.length + 8) := by
  rw [List.take_add_one, h]
  simp only [Option.toList]
  rw [recsN_snoc, List.length_append, recN_length]
theorem recs_len (xs : List (List UInt8)) (k : Nat) : (recsN (xs.take k)).length ≤ (recsN xs).length := by
  have : recsN xs = recsN (xs.take k) ++ recsN (xs.drop k) := by rw [← recsN_append, List.take_append_drop]
  rw [this, List.length_append]
  omega
set_option maxRecDepth 100000 in
set_option maxHeartbeats 1000000 in
theorem whole_any (xs : List (List UInt8)) (t : List UInt8) (hx : ∀ x ∈ xs, x.length ≤ 60000) (ht : firstL t = none) (s : List UInt8) (hs : s = recsN xs ++ t) (A : Option Addr) (cap : Nat) (fp : Nat → Prop) (hl : s.length ≤ 1000000000) (w : World) (h : BytesAt w (.slice A s.length cap) s fp) :
    Calls Tryz.prog 21 #[.slice A s.length cap] w fun e w' => e = .returned (.int .i64 (recsN xs).length) ∧ Bel w w' := by
  have H := Lib.hid h
  have HS := Lib.hid hs
  have HT := Lib.hid ht
  have HX := Lib.hid hx
  have HL := Lib.hid hl
  have hle : (recsN xs).length ≤ s.length := by rw [hs]; simp
  have HLE := Lib.hid hle
  clear h hs ht hx hl hle
  go_enter Tryz.func21, Tryz.ntmps21
  go_wp2
  go_loopw [2] (fun v wr => ∃ k : Nat, k ≤ xs.length ∧ v = .int .i64 (recsN (xs.take k)).length ∧ Hid (Bel w wr)) (fun v _ => s.length + 1 - (intOf v).toNat)
  case atStart => exact ⟨0, Nat.zero_le _, rfl, Bel.refl w⟩
  case round =>
    obtain ⟨k, hk, rfl, HB⟩ := hrel
    have hat : (recsN (xs.take k)).length ≤ s.length := Nat.le_trans (recs_len xs k) HLE.out
    have hfrom := (H.out.bel HB.out).from_ (recsN (xs.take k)).length hat
    have hdr : s.drop (recsN (xs.take k)).length = recsN (xs.drop k) ++ t := by rw [HS.out]; exact drop_recs xs t k
    rw [hdr] at hfrom
    have hln : s.length - (recsN (xs.take k)).length = (recsN (xs.drop k) ++ t).length := by rw [← hdr, List.length_drop]
    have hsl := fun w => slice_from A s.length cap (recsN (xs.take k)).length (recsN (xs.take k)).length rfl hat w
    rw [hln] at hsl hfrom
    generalize (if cap = (recsN (xs.take k)).length then A else A.map (·.add (recsN (xs.take k)).length)) = A2 at *
    have HF := Lib.hid (first_any _ A2 _ fp (by have := HL.out; omega) wr hfrom)
    have hI : ((recsN (xs.take k)).length : Int) ≤ s.length := by omega
    have hsI : (s.length : Int) ≤ 1000000000 := by have := HL.out; omega
    clear hfrom
    by_cases hlt : k < xs.length
    · obtain ⟨x, hxk⟩ : ∃ x, xs[k]? = some x := ⟨_, List.getElem?_eq_getElem hlt⟩
      have hxl : x.length ≤ 60000 := HX.out x (List.mem_of_getElem? hxk)
      have hfx : firstL (recsN (xs.drop k) ++ t) = some x := by rw [recs_at hxk t]; exact firstL_rec _ _ hxl
      have hnx := recs_take hxk
      have hle2 := Nat.le_trans (recs_len xs (k + 1)) HLE.out
      rw [hfx] at HF
      have HNX := Lib.hid hnx
      have HLE2 := Lib.hid hle2
      have hxI : (x.length : Int) ≤ 60000 := by omega
      clear hfx hdr hln hxk hnx hle2
      generalize (recsN (xs.take k)).length = at_ at *
      generalize (recsN (xs.drop k) ++ t) = d at *
      go_wp2_with (go_at_call 47; refine HF.out.mono ?_; rintro e w1 ⟨hb1, A3, rfl, hb3⟩)
      have HB1 := Lib.hid (HB.out.then_ hb1)
      clear hb1 hb3
      go_wp2
      go_roundw
      case rel => exact ⟨k + 1, by omega, by rw [HNX.out]; go_num, HB1.out⟩
      case measure => have h1 := HNX.out; have h2 := HLE2.out; rw [h1] at h2; simp [intOf]; omega
    · obtain rfl : k = xs.length := by omega
      have hfx : firstL (recsN (xs.drop xs.length) ++ t) = none := by rw [List.drop_length]; simpa [recsN] using HT.out
      rw [hfx] at HF
      have hfin : (recsN (xs.take xs.length)).length = (recsN xs).length := by rw [List.take_length]
      have HFIN := Lib.hid hfin
      clear hfx hdr hln hfin
      generalize (recsN (xs.take xs.length)).length = at_ at *
      generalize (recsN (xs.drop xs.length) ++ t) = d at *
      go_wp2_with (go_at_call 47; refine HF.out.mono ?_; rintro e w1 ⟨hb1, v, rfl⟩)
      have HB1 := Lib.hid (HB.out.then_ hb1)
      clear hb1
      go_wp2
      go_ret
      exact ⟨ret_int (by rw [HFIN.out]), HB1.out⟩
end Go.Proofs.YtiajggmnfaidjaaGreatDoor
