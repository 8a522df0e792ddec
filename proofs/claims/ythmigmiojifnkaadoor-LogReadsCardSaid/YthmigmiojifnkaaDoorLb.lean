/-
  Whole over bytes that are only known to read so (an argument's).
-/
import Derived.Test.YthmigmiojifnkaaDoorLg
set_option linter.unusedVariables false
set_option linter.unusedSimpArgs false
set_option linter.unusedVariables false
set_option linter.unusedSimpArgs false
namespace Go.Proofs.YthmigmiojifnkaaDoor
open Go.RowKit

/-- A slice that reads as these bytes. -/
def BytesR (w : World) (v : Value) (s : List UInt8) (fp : Nat → Prop) : Prop :=
  ∃ A cap, v = .slice A s.length cap ∧ s.length ≤ cap ∧ (0 < s.length → ∃ b off, A = some ⟨b, off, none⟩ ∧ b < w.heap.size ∧ ∀ j c, s[j]? = some c → w.cell? ⟨b, off + j, none⟩ = some (bv c))
section
variable {w w' : World} {A : Option Addr} {n cap : Nat} {s : List UInt8} {fp : Nat → Prop} {v : Value}
theorem BytesR.bel (h : BytesR w v s fp) (hb : Bel w w') : BytesR w' v s fp := by
  obtain ⟨A, cap, h1, h2, h3⟩ := h
  refine ⟨A, cap, h1, h2, fun hn => ?_⟩
  obtain ⟨b, off, e, hl, hc⟩ := h3 hn
  exact ⟨b, off, e, Nat.lt_of_lt_of_le hl hb.size, fun j c hj => hb.c (hc j c hj)⟩
theorem BytesR.reads (h : BytesR w (.slice A n cap) s fp) : n = s.length ∧ Reads w w.heap.size 1 A s.length (s.map bv) := by
  obtain ⟨A', cap', h1, h2, h3⟩ := h
  simp only [Value.slice.injEq] at h1
  obtain ⟨rfl, rfl, rfl⟩ := h1
  refine ⟨rfl, by simp, fun hn => ?_⟩
  obtain ⟨b, off, rfl, hl, hc⟩ := h3 hn
  refine ⟨_, rfl, hl, fun j u hu => ?_⟩
  rw [List.getElem?_map] at hu
  obtain ⟨c, hj, rfl⟩ := Option.map_eq_some_iff.1 hu
  rw [add_free]
  exact hc j c hj
theorem BytesR.of_reads (h : Reads w w.heap.size 1 A s.length (s.map bv)) (hc : s.length ≤ cap) (hA : 0 < s.length → ∃ b off, A = some ⟨b, off, none⟩) : BytesR w (.slice A s.length cap) s fp := by
  refine ⟨A, cap, rfl, hc, fun hn => ?_⟩
  obtain ⟨b, off, rfl⟩ := hA hn
  obtain ⟨ad, e, hl, hj⟩ := h.2 hn
  cases e
  refine ⟨b, off, rfl, hl, fun j c hc => ?_⟩
  have := hj j (bv c) (by rw [List.getElem?_map, hc]; rfl)
  rwa [add_free] at this
theorem BytesR.mid (h : BytesR w (.slice A n cap) s fp) (l m : Nat) (hlm : l + m ≤ n) : BytesR w (.slice (if m = 0 then A else A.map (·.add l)) m m) ((s.drop l).take m) fp := by
  obtain ⟨A', cap', h1, h2, h3⟩ := h
  simp only [Value.slice.injEq] at h1
  obtain ⟨rfl, rfl, rfl⟩ := h1
  have hl : ((s.drop l).take m).length = m := by rw [List.length_take, List.length_drop]; omega
  refine ⟨_, m, by rw [hl], by omega, fun hn => ?_⟩
  obtain ⟨b, off, rfl, hb, hc⟩ := h3 (by omega)
  refine ⟨b, off + l, by rw [if_neg (by omega)]; simp [add_free], hb, fun j c hj => ?_⟩
  rw [List.getElem?_take] at hj
  split at hj
  · rw [List.getElem?_drop] at hj
    rw [Nat.add_assoc]
    exact hc _ c hj
  · simp at hj
theorem BytesR.take (h : BytesR w (.slice A n cap) s fp) (k : Nat) (hk : k ≤ n) : BytesR w (.slice A k k) (s.take k) fp := by
  obtain ⟨A', cap', h1, h2, h3⟩ := h
  simp only [Value.slice.injEq] at h1
  obtain ⟨rfl, rfl, rfl⟩ := h1
  have hl : (s.take k).length = k := by rw [List.length_take]; omega
  refine ⟨A, k, by rw [hl], by omega, fun hn => ?_⟩
  obtain ⟨b, off, rfl, hb, hc⟩ := h3 (by omega)
  refine ⟨b, off, rfl, hb, fun j c hj => ?_⟩
  rw [List.getElem?_take] at hj
  split at hj
  · exact hc _ c hj
  · simp at hj
theorem BytesR.from_ (h : BytesR w (.slice A n cap) s fp) (l : Nat) (hl : l ≤ n) : BytesR w (.slice (if cap = l then A else A.map (·.add l)) (n - l) (cap - l)) (s.drop l) fp := by
  obtain ⟨A', cap', h1, h2, h3⟩ := h
  simp only [Value.slice.injEq] at h1
  obtain ⟨rfl, rfl, rfl⟩ := h1
  have hd : (s.drop l).length = s.length - l := List.length_drop
  refine ⟨_, cap - l, by rw [hd], by omega, fun hn => ?_⟩
  obtain ⟨b, off, rfl, hb, hc⟩ := h3 (by omega)
  refine ⟨b, off + l, by rw [if_neg (by omega)]; simp [add_free], hb, fun j c hj => ?_⟩
  rw [List.getElem?_drop] at hj
  rw [Nat.add_assoc]
  exact hc _ c hj
end
def GivesFirstR (o : Option (List UInt8)) (fp : Nat → Prop) (w : World) (e : Ending) (w' : World) : Prop :=
  Bel w w' ∧ match o with
  | some o => ∃ A, e = .returned (.tuple #[.slice A o.length o.length, .bool true]) ∧ BytesR w' (.slice A o.length o.length) o fp
  | none => ∃ v, e = .returned (.tuple #[v, .bool false])
set_option maxRecDepth 100000 in
set_option maxHeartbeats 1000000 in
theorem firstR_any (s : List UInt8) (A : Option Addr) (cap : Nat) (fp : Nat → Prop) (hs : s.length ≤ 1000000000) (w : World) (h : BytesR w (.slice A s.length cap) s fp) : Calls Tryd.prog 61 #[.slice A s.length cap] w (GivesFirstR (firstL s) fp w) := by
  have hcap : s.length ≤ cap := by obtain ⟨A', cap', h1, h2, _⟩ := id h; simp only [Value.slice.injEq] at h1; obtain ⟨-, -, rfl⟩ := h1; exact h2
  by_cases h8 : s.length < 8
  · have hf : firstL s = none := by unfold firstL; rw [if_pos h8]
    rw [hf]
    clear h hcap hf
    go_enter Tryd.func61, Tryd.ntmps61
    go_wp2
    refine wp_scope_forward 0 rfl ?_
    go_wp2
    go_step3
    refine ⟨rfl, ?_⟩
    go_wp2
    rw [Exit.noGoto_ret]
    go_ret2
    exact ⟨Bel.refl _, _, rfl⟩
  have hl4 : (s.take 4).length = 4 := by simp; omega
  have hl8 : ((s.drop 4).take 4).length = 4 := by simp; omega
  have hb4 := h.take 4 (by omega)
  have hb8 := h.mid 4 4 (by omega)
  have s4 := fun w => slice_first A s.length cap 4 4 rfl (by omega) w
  have s8 := fun w => slice_mid A s.length cap 4 4 4 8 rfl rfl (by omega) w
  simp only [show (4 : Nat) = 0 ↔ False from by decide, if_false] at hb8 s8
  have R4 := hb4.reads.2
  have R8 := hb8.reads.2
  rw [hl4] at R4
  rw [hl8] at R8
  have c4 := readFixed_any (s.take 4) A 4 (by omega) (by omega) w (by rw [hl4]; exact R4)
  have c8 := readFixed_any ((s.drop 4).take 4) (A.map (·.add 4)) 4 (by omega) (by omega) w (by rw [hl8]; exact R8)
  rw [hl4] at c4
  rw [hl8] at c8
  have C4 := Lib.hid c4
  have C8 := Lib.hid c8
  have hm4 : numN (s.take 4) < 4294967296 := by have := numN_lt (s.take 4); rw [hl4] at this; exact this
  have hm8 : numN ((s.drop 4).take 4) < 4294967296 := by have := numN_lt ((s.drop 4).take 4); rw [hl8] at this; exact this
  have hfl : firstL s = if 60000 < numN (s.take 4) ∨ s.length - 8 < numN (s.take 4) then none
      else if crc ((s.drop 8).take (numN (s.take 4))) = numN ((s.drop 4).take 4) then some ((s.drop 8).take (numN (s.take 4))) else none := by
    conv => lhs; unfold firstL
    rw [if_neg h8]
  rw [hfl]
  clear hfl c4 c8 R4 R8 hb4 hb8 hl4 hl8
  generalize numN (s.take 4) = many at *
  generalize numN ((s.drop 4).take 4) = sum at *
  have H := Lib.hid h
  have hlenI : (8 : Int) ≤ s.length := by omega
  have hlenH : (s.length : Int) ≤ 1000000000 := by omega
  by_cases hbig : 60000 < many
  · have hp : 60000 < many ∨ s.length - 8 < many := .inl hbig
    rw [if_pos hp]
    clear h hcap hp
    go_enter Tryd.func61, Tryd.ntmps61
    go_wp2
    refine wp_scope_forward 0 rfl ?_
    go_wp2_with fail
    refine C4.out.mono ?_
    rintro e w' ⟨rfl, rfl⟩
    go_wp2_with fail
    refine C8.out.mono ?_
    rintro e w' ⟨rfl, rfl⟩
    go_wp2
    go_step3
    refine ⟨rfl, ?_⟩
    go_wp2
    rw [Exit.noGoto_ret]
    go_ret2
    exact ⟨Bel.refl _, _, rfl⟩
  by_cases hlong : s.length - 8 < many
  · have hp : 60000 < many ∨ s.length - 8 < many := .inr hlong
    rw [if_pos hp]
    have hsubI : (s.length : Int) - 8 < many := by omega
    clear h hcap hp
    go_enter Tryd.func61, Tryd.ntmps61
    go_wp2
    refine wp_scope_forward 0 rfl ?_
    go_wp2_with fail
    refine C4.out.mono ?_
    rintro e w' ⟨rfl, rfl⟩
    go_wp2_with fail
    refine C8.out.mono ?_
    rintro e w' ⟨rfl, rfl⟩
    go_wp2
    go_step3
    refine ⟨rfl, ?_⟩
    go_wp2
    rw [Exit.noGoto_ret]
    go_ret2
    exact ⟨Bel.refl _, _, rfl⟩
  have hp : ¬ (60000 < many ∨ s.length - 8 < many) := by omega
  rw [if_neg hp]
  have hout := h.mid 8 many (by omega)
  have hol : ((s.drop 8).take many).length = many := by simp; omega
  have sOut := fun w => slice_mid A s.length cap 8 many 8 (8 + (many : Int)) rfl (by simp) (by omega) w
  generalize (if many = 0 then A else A.map (·.add 8)) = A2 at *
  have hsubI : (many : Int) ≤ (s.length : Int) - 8 := by omega
  have hbigI : (many : Int) ≤ 60000 := by omega
  generalize (s.drop 8).take many = o at *
  have HOUT := Lib.hid hout
  have HOL := Lib.hid hol
  have hb1 : Bel w (w.alloc (.cells #[.slice A2 many many] 31)) := (Bel.refl w).alloc _
  have hsum := sum_one o A2 many w.heap.size (by omega) (w.alloc (.cells #[.slice A2 many many] 31)) ((hout.bel hb1).reads.2) (by rw [hol]; simp)
  have HSUM := Lib.hid hsum
  have hcl := crc_lt o
  have HE : Hid (((crc o : Int) = (sum : Int)) ↔ crc o = sum) := by show _ ↔ _; omega
  clear h hcap hp hout hol hb1 hsum hlong hbig
  by_cases heq : crc o = sum
  · simp only [heq, if_true]
    subst heq
    go_enter Tryd.func61, Tryd.ntmps61
    go_wp2
    refine wp_scope_forward 0 rfl ?_
    go_wp2_with fail
    refine C4.out.mono ?_
    rintro e w' ⟨rfl, rfl⟩
    go_wp2_with fail
    refine C8.out.mono ?_
    rintro e w' ⟨rfl, rfl⟩
    go_wp2_with fail
    refine HSUM.out.mono ?_
    rintro e w' ⟨rfl, rfl⟩
    go_wp2
    rw [jump_ret]
    go_ret2
    refine ⟨(Bel.refl _).alloc _, A2, by rw [HOL.out]; rfl, ?_⟩
    rw [HOL.out]
    exact HOUT.out.bel ((Bel.refl _).alloc _)
  · simp only [heq, if_false]
    have hne : ((crc o : Int) == (sum : Int)) = false := beq_eq_false_iff_ne.2 (by omega)
    go_enter Tryd.func61, Tryd.ntmps61
    go_wp2
    refine wp_scope_forward 0 rfl ?_
    go_wp2_with fail
    refine C4.out.mono ?_
    rintro e w' ⟨rfl, rfl⟩
    go_wp2_with fail
    refine C8.out.mono ?_
    rintro e w' ⟨rfl, rfl⟩
    go_wp2_with fail
    refine HSUM.out.mono ?_
    rintro e w' ⟨rfl, rfl⟩
    go_wp2
    rw [jump_ret]
    go_ret2
    exact ⟨(Bel.refl _).alloc _, _, rfl⟩
set_option maxRecDepth 100000 in
set_option maxHeartbeats 1000000 in
theorem wholeR_any (xs : List (List UInt8)) (t : List UInt8) (hx : ∀ x ∈ xs, x.length ≤ 60000) (ht : firstL t = none) (s : List UInt8) (hs : s = recsN xs ++ t) (A : Option Addr) (cap : Nat) (fp : Nat → Prop) (hl : s.length ≤ 1000000000) (w : World) (h : BytesR w (.slice A s.length cap) s fp) :
    Calls Tryd.prog 29 #[.slice A s.length cap] w fun e w' => e = .returned (.int .i64 (recsN xs).length) ∧ Bel w w' := by
  have H := Lib.hid h
  have HS := Lib.hid hs
  have HT := Lib.hid ht
  have HX := Lib.hid hx
  have HL := Lib.hid hl
  have hle : (recsN xs).length ≤ s.length := by rw [hs]; simp
  have HLE := Lib.hid hle
  clear h hs ht hx hl hle
  go_enter Tryd.func29, Tryd.ntmps29
  go_wp2
  go_loopw [2] (fun v wr => ∃ k : Nat, k ≤ xs.length ∧ v = .int .i64 (recsN (xs.take k)).length ∧ Hid (Bel w wr)) (fun v _ => s.length + 1 - (intOf v).toNat)
  case atStart => exact ⟨0, Nat.zero_le _, rfl, Bel.refl w⟩
  case round =>
    obtain ⟨k, hk, rfl, HB⟩ := hrel
    have hat : (recsN (xs.take k)).length ≤ s.length := Nat.le_trans (recs_len xs k) HLE.out
    have hfrom := (H.out.bel HB.out).from_ (recsN (xs.take k)).length hat
    have hdr : s.drop (recsN (xs.take k)).length = recsN (xs.drop k) ++ t := by rw [HS.out]; exact drop_recs xs t k
    rw [hdr] at hfrom
    have hln : s.length - (recsN (xs.take k)).length = (recsN (xs.drop k) ++ t).length := by rw [← hdr, List.length_drop]
    have hsl := fun w => slice_from A s.length cap (recsN (xs.take k)).length (recsN (xs.take k)).length rfl hat w
    rw [hln] at hsl hfrom
    generalize (if cap = (recsN (xs.take k)).length then A else A.map (·.add (recsN (xs.take k)).length)) = A2 at *
    have HF := Lib.hid (firstR_any _ A2 _ fp (by have := HL.out; omega) wr hfrom)
    have hI : ((recsN (xs.take k)).length : Int) ≤ s.length := by omega
    have hsI : (s.length : Int) ≤ 1000000000 := by have := HL.out; omega
    clear hfrom
    by_cases hlt : k < xs.length
    · obtain ⟨x, hxk⟩ : ∃ x, xs[k]? = some x := ⟨_, List.getElem?_eq_getElem hlt⟩
      have hxl : x.length ≤ 60000 := HX.out x (List.mem_of_getElem? hxk)
      have hfx : firstL (recsN (xs.drop k) ++ t) = some x := by rw [recs_at hxk t]; exact firstL_rec _ _ hxl
      have hnx := recs_take hxk
      have hle2 := Nat.le_trans (recs_len xs (k + 1)) HLE.out
      rw [hfx] at HF
      have HNX := Lib.hid hnx
      have HLE2 := Lib.hid hle2
      have hxI : (x.length : Int) ≤ 60000 := by omega
      clear hfx hdr hln hxk hnx hle2
      generalize (recsN (xs.take k)).length = at_ at *
      generalize (recsN (xs.drop k) ++ t) = d at *
      go_wp2_with (go_at_call 61; refine HF.out.mono ?_; rintro e w1 ⟨hb1, A3, rfl, hb3⟩)
      have HB1 := Lib.hid (HB.out.then_ hb1)
      clear hb1 hb3
      go_wp2
      go_roundw
      case rel => exact ⟨k + 1, by omega, by rw [HNX.out]; go_num, HB1.out⟩
      case measure => have h1 := HNX.out; have h2 := HLE2.out; rw [h1] at h2; simp [intOf]; omega
    · obtain rfl : k = xs.length := by omega
      have hfx : firstL (recsN (xs.drop xs.length) ++ t) = none := by rw [List.drop_length]; simpa [recsN] using HT.out
      rw [hfx] at HF
      have hfin : (recsN (xs.take xs.length)).length = (recsN xs).length := by rw [List.take_length]
      have HFIN := Lib.hid hfin
      clear hfx hdr hln hfin
      generalize (recsN (xs.take xs.length)).length = at_ at *
      generalize (recsN (xs.drop xs.length) ++ t) = d at *
      go_wp2_with (go_at_call 61; refine HF.out.mono ?_; rintro e w1 ⟨hb1, v, rfl⟩)
      have HB1 := Lib.hid (HB.out.then_ hb1)
      clear hb1
      go_wp2
      go_ret
      exact ⟨ret_int (by rw [HFIN.out]), HB1.out⟩
end Go.Proofs.YthmigmiojifnkaaDoor
