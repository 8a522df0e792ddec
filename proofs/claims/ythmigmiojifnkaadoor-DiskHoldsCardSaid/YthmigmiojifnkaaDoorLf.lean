/-
  The log: the record with which bytes begin; the whole part.
-/
import Derived.Test.YthmigmiojifnkaaDoorLg
set_option linter.unusedVariables false
set_option linter.unusedSimpArgs false
set_option linter.unusedVariables false
set_option linter.unusedSimpArgs false
namespace Go.Proofs.YthmigmiojifnkaaDoor
open Go.RowKit

theorem add_free {b off : Nat} (l : Nat) : (Addr.add ⟨b, off, none⟩ l) = ⟨b, off + l, none⟩ := by unfold Addr.add; split <;> simp_all
theorem addr_free {a : Addr} (h : a.spot = none) : a = ⟨a.block, a.off, none⟩ := by cases a; simp at h; subst h; rfl
section
variable {w : World} {A : Option Addr} {n cap : Nat} {s : List UInt8} {fp : Nat → Prop}
theorem BytesAt.mid (h : BytesAt w (.slice A n cap) s fp) (l m : Nat) (hlm : l + m ≤ n) : BytesAt w (.slice (if m = 0 then A else A.map (·.add l)) m m) ((s.drop l).take m) fp := by
  obtain ⟨A', cap', h1, h2, h3, h4, h4', h5⟩ := h
  simp only [Value.slice.injEq] at h1
  obtain ⟨rfl, rfl, rfl⟩ := h1
  have hl : ((s.drop l).take m).length = m := by simp; omega
  refine ⟨_, m, by rw [hl], by omega, by omega, fun ha => ?_, fun a ha => ?_, fun hn => ?_⟩
  · by_cases hm : m = 0
    · exact hm
    · rw [if_neg hm] at ha
      cases A with
      | none => have := h4 rfl; omega
      | some a => simp at ha
  · by_cases hm : m = 0
    · rw [if_pos hm] at ha; exact h4' a ha
    · rw [if_neg hm] at ha
      cases A with
      | none => simp at ha
      | some a0 =>
        have h0 := h4' a0 rfl
        rw [addr_free h0] at ha
        simp [add_free] at ha
        rw [← ha]
  · rw [hl] at hn
    obtain ⟨b, off, cs, fz, rfl, h6', h7, h8⟩ := h5 (by omega)
    refine ⟨b, off + l, cs, fz, by rw [if_neg (by omega)]; simp [add_free], h6', h7, fun j c hj => ?_⟩
    rw [List.getElem?_take] at hj
    split at hj
    · rw [List.getElem?_drop] at hj
      rw [Nat.add_assoc]
      exact h8 _ c hj
    · simp at hj
theorem BytesAt.from_ (h : BytesAt w (.slice A n cap) s fp) (l : Nat) (hl : l ≤ n) : BytesAt w (.slice (if cap = l then A else A.map (·.add l)) (n - l) (cap - l)) (s.drop l) fp := by
  obtain ⟨A', cap', h1, h2, h3, h4, h4', h5⟩ := h
  simp only [Value.slice.injEq] at h1
  obtain ⟨rfl, rfl, rfl⟩ := h1
  refine ⟨(if cap = l then A else A.map (·.add l)), cap - l, by rw [List.length_drop], by simp; omega, by omega, fun ha => ?_, fun a ha => ?_, fun hn => ?_⟩
  · by_cases hm : cap = l
    · omega
    · rw [if_neg hm] at ha
      cases A with
      | none => have := h4 rfl; omega
      | some a => simp at ha
  · by_cases hm : cap = l
    · rw [if_pos hm] at ha; exact h4' a ha
    · rw [if_neg hm] at ha
      cases A with
      | none => simp at ha
      | some a0 =>
        have h0 := h4' a0 rfl
        rw [addr_free h0] at ha
        simp [add_free] at ha
        rw [← ha]
  · simp at hn
    obtain ⟨b, off, cs, fz, rfl, h6', h7, h8⟩ := h5 (by omega)
    refine ⟨b, off + l, cs, fz, by rw [if_neg (by omega)]; simp [add_free], h6', h7, fun j c hj => ?_⟩
    rw [List.getElem?_drop] at hj
    rw [Nat.add_assoc]
    exact h8 _ c hj
end
theorem sizeB (w : World) : (sizeOf (Tryd.prog.elem 31)).run Tryd.prog w = .ok 1 w := by kernel_rfl
theorem slice_mid (A : Option Addr) (n cap l m : Nat) (lI hI : Int) (hl : lI = l) (hh : hI = (l + m : Nat)) (hlm : l + m ≤ cap) (w : World) :
    (Instr.slice 31 (.slice A n cap) (some (.int .i64 lI)) (some (.int .i64 hI)) (some (.int .i64 hI))).run Tryd.prog w = .ok (.slice (if m = 0 then A else A.map (·.add l)) m m) w := by
  subst hl hh
  rw [run_slice_lhm w 31 A n cap (by kernel_rfl) .i64 .i64 .i64 l (l + m : Nat) (l + m : Nat) (by omega) (by omega) (by omega) (by omega), sizeB]
  show Result.ok (sliced A l (l + m) (l + m) 1) w = _
  have e : (l + m = l) = (m = 0) := by apply propext; omega
  unfold sliced
  simp [e]
theorem slice_first (A : Option Addr) (n cap m : Nat) (hI : Int) (hh : hI = m) (hlm : m ≤ cap) (w : World) :
    (Instr.slice 31 (.slice A n cap) none (some (.int .i64 hI)) (some (.int .i64 hI))).run Tryd.prog w = .ok (.slice A m m) w := by
  subst hh
  rw [run_slice_hm w 31 A n cap (by kernel_rfl) .i64 .i64 m m (by omega) (by omega) (by omega), sizeB]
  have e : (fun x : Addr => x.add 0) = id := by funext x; simp [Addr.add]
  show Result.ok (sliced A 0 m m 1) w = _
  unfold sliced
  simp [e]
theorem slice_from (A : Option Addr) (n cap l : Nat) (lI : Int) (hl : lI = l) (hln : l ≤ n) (w : World) :
    (Instr.slice 31 (.slice A n cap) (some (.int .i64 lI)) none none).run Tryd.prog w = .ok (.slice (if cap = l then A else A.map (·.add l)) (n - l) (cap - l)) w := by
  subst hl
  rw [run_slice_l w 31 A n cap (by kernel_rfl) .i64 l (by omega) (by omega), sizeB]
  simp [Result.andThen, sliced]

/-- The record's bytes with which others begin. -/
def firstL (b : List UInt8) : Option (List UInt8) :=
  if b.length < 8 then none else if 60000 < numN (b.take 4) ∨ b.length - 8 < numN (b.take 4) then none
  else if crc ((b.drop 8).take (numN (b.take 4))) = numN ((b.drop 4).take 4) then some ((b.drop 8).take (numN (b.take 4))) else none
def GivesFirst (o : Option (List UInt8)) (fp : Nat → Prop) (w : World) (e : Ending) (w' : World) : Prop :=
  Bel w w' ∧ match o with
  | some o => ∃ A, e = .returned (.tuple #[.slice A o.length o.length, .bool true]) ∧ BytesAt w' (.slice A o.length o.length) o fp
  | none => ∃ v, e = .returned (.tuple #[v, .bool false])
set_option maxRecDepth 100000 in
set_option maxHeartbeats 1000000 in
theorem first_any (s : List UInt8) (A : Option Addr) (cap : Nat) (fp : Nat → Prop) (hs : s.length ≤ 1000000000) (w : World) (h : BytesAt w (.slice A s.length cap) s fp) : Calls Tryd.prog 61 #[.slice A s.length cap] w (GivesFirst (firstL s) fp w) := by
  have hcap : s.length ≤ cap := by obtain ⟨A', cap', h1, h2, _⟩ := id h; simp only [Value.slice.injEq] at h1; obtain ⟨-, -, rfl⟩ := h1; exact h2
  by_cases h8 : s.length < 8
  · have hf : firstL s = none := by unfold firstL; rw [if_pos h8]
    rw [hf]
    clear h hcap hf
    go_enter Tryd.func61, Tryd.ntmps61
    go_wp2
    refine wp_scope_forward 0 rfl ?_
    go_wp2
    go_step3
    refine ⟨rfl, ?_⟩
    go_wp2
    rw [Exit.noGoto_ret]
    go_ret2
    exact ⟨Bel.refl _, _, rfl⟩
  have hl4 : (s.take 4).length = 4 := by simp; omega
  have hl8 : ((s.drop 4).take 4).length = 4 := by simp; omega
  have hb4 := h.take 4 (by omega)
  have hb8 := h.mid 4 4 (by omega)
  have s4 := fun w => slice_first A s.length cap 4 4 rfl (by omega) w
  have s8 := fun w => slice_mid A s.length cap 4 4 4 8 rfl rfl (by omega) w
  simp only [show (4 : Nat) = 0 ↔ False from by decide, if_false] at hb8 s8
  have R4 := hb4.reads.2
  have R8 := hb8.reads.2
  rw [hl4] at R4
  rw [hl8] at R8
  have c4 := readFixed_any (s.take 4) A 4 (by omega) (by omega) w (by rw [hl4]; exact R4)
  have c8 := readFixed_any ((s.drop 4).take 4) (A.map (·.add 4)) 4 (by omega) (by omega) w (by rw [hl8]; exact R8)
  rw [hl4] at c4
  rw [hl8] at c8
  have C4 := Lib.hid c4
  have C8 := Lib.hid c8
  have hm4 : numN (s.take 4) < 4294967296 := by have := numN_lt (s.take 4); rw [hl4] at this; exact this
  have hm8 : numN ((s.drop 4).take 4) < 4294967296 := by have := numN_lt ((s.drop 4).take 4); rw [hl8] at this; exact this
  have hfl : firstL s = if 60000 < numN (s.take 4) ∨ s.length - 8 < numN (s.take 4) then none
      else if crc ((s.drop 8).take (numN (s.take 4))) = numN ((s.drop 4).take 4) then some ((s.drop 8).take (numN (s.take 4))) else none := by
    conv => lhs; unfold firstL
    rw [if_neg h8]
  rw [hfl]
  clear hfl c4 c8 R4 R8 hb4 hb8 hl4 hl8
  generalize numN (s.take 4) = many at *
  generalize numN ((s.drop 4).take 4) = sum at *
  have H := Lib.hid h
  have hlenI : (8 : Int) ≤ s.length := by omega
  have hlenH : (s.length : Int) ≤ 1000000000 := by omega
  by_cases hbig : 60000 < many
  · have hp : 60000 < many ∨ s.length - 8 < many := .inl hbig
    rw [if_pos hp]
    clear h hcap hp
    go_enter Tryd.func61, Tryd.ntmps61
    go_wp2
    refine wp_scope_forward 0 rfl ?_
    go_wp2_with fail
    refine C4.out.mono ?_
    rintro e w' ⟨rfl, rfl⟩
    go_wp2_with fail
    refine C8.out.mono ?_
    rintro e w' ⟨rfl, rfl⟩
    go_wp2
    go_step3
    refine ⟨rfl, ?_⟩
    go_wp2
    rw [Exit.noGoto_ret]
    go_ret2
    exact ⟨Bel.refl _, _, rfl⟩
  by_cases hlong : s.length - 8 < many
  · have hp : 60000 < many ∨ s.length - 8 < many := .inr hlong
    rw [if_pos hp]
    have hsubI : (s.length : Int) - 8 < many := by omega
    clear h hcap hp
    go_enter Tryd.func61, Tryd.ntmps61
    go_wp2
    refine wp_scope_forward 0 rfl ?_
    go_wp2_with fail
    refine C4.out.mono ?_
    rintro e w' ⟨rfl, rfl⟩
    go_wp2_with fail
    refine C8.out.mono ?_
    rintro e w' ⟨rfl, rfl⟩
    go_wp2
    go_step3
    refine ⟨rfl, ?_⟩
    go_wp2
    rw [Exit.noGoto_ret]
    go_ret2
    exact ⟨Bel.refl _, _, rfl⟩
  have hp : ¬ (60000 < many ∨ s.length - 8 < many) := by omega
  rw [if_neg hp]
  have hout := h.mid 8 many (by omega)
  have hol : ((s.drop 8).take many).length = many := by simp; omega
  have sOut := fun w => slice_mid A s.length cap 8 many 8 (8 + (many : Int)) rfl (by simp) (by omega) w
  generalize (if many = 0 then A else A.map (·.add 8)) = A2 at *
  have hsubI : (many : Int) ≤ (s.length : Int) - 8 := by omega
  have hbigI : (many : Int) ≤ 60000 := by omega
  generalize (s.drop 8).take many = o at *
  have HOUT := Lib.hid hout
  have HOL := Lib.hid hol
  have hb1 : Bel w (w.alloc (.cells #[.slice A2 many many] 31)) := (Bel.refl w).alloc _
  have hsum := sum_one o A2 many w.heap.size (by omega) (w.alloc (.cells #[.slice A2 many many] 31)) ((hout.bel hb1).reads.2) (by rw [hol]; simp)
  have HSUM := Lib.hid hsum
  have hcl := crc_lt o
  have HE : Hid (((crc o : Int) = (sum : Int)) ↔ crc o = sum) := by show _ ↔ _; omega
  clear h hcap hp hout hol hb1 hsum hlong hbig
  by_cases heq : crc o = sum
  · simp only [heq, if_true]
    subst heq
    go_enter Tryd.func61, Tryd.ntmps61
    go_wp2
    refine wp_scope_forward 0 rfl ?_
    go_wp2_with fail
    refine C4.out.mono ?_
    rintro e w' ⟨rfl, rfl⟩
    go_wp2_with fail
    refine C8.out.mono ?_
    rintro e w' ⟨rfl, rfl⟩
    go_wp2_with fail
    refine HSUM.out.mono ?_
    rintro e w' ⟨rfl, rfl⟩
    go_wp2
    rw [jump_ret]
    go_ret2
    refine ⟨(Bel.refl _).alloc _, A2, by rw [HOL.out]; rfl, ?_⟩
    rw [HOL.out]
    exact HOUT.out.bel ((Bel.refl _).alloc _)
  · simp only [heq, if_false]
    have hne : ((crc o : Int) == (sum : Int)) = false := beq_eq_false_iff_ne.2 (by omega)
    go_enter Tryd.func61, Tryd.ntmps61
    go_wp2
    refine wp_scope_forward 0 rfl ?_
    go_wp2_with fail
    refine C4.out.mono ?_
    rintro e w' ⟨rfl, rfl⟩
    go_wp2_with fail
    refine C8.out.mono ?_
    rintro e w' ⟨rfl, rfl⟩
    go_wp2_with fail
    refine HSUM.out.mono ?_
    rintro e w' ⟨rfl, rfl⟩
    go_wp2
    rw [jump_ret]
    go_ret2
    exact ⟨(Bel.refl _).alloc _, _, rfl⟩
end Go.Proofs.YthmigmiojifnkaaDoor
