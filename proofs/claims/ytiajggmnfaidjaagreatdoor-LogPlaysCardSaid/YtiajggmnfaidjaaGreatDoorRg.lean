/-
  The document's log: a record read out of a text, the whole part.
-/
import Derived.Test.YtiajggmnfaidjaaGreatDoorRf
import Derived.Test.YtiajggmnfaidjaaGreatDoorRc
set_option linter.unusedVariables false
set_option linter.unusedSimpArgs false
set_option linter.unusedVariables false
set_option linter.unusedSimpArgs false
namespace Go.Proofs.YtiajggmnfaidjaaGreatDoor
open Go.RowKit

theorem mid_bytes (s : List UInt8) (a b : Nat) : (⟨s.toArray⟩ : ByteArray).extract a b = ⟨((s.drop a).take (b - a)).toArray⟩ := by
  apply ByteArray.ext
  simp
theorem drop_bytes (s : List UInt8) (a : Nat) : (⟨s.toArray⟩ : ByteArray).extract a s.length = ⟨(s.drop a).toArray⟩ := by
  rw [mid_bytes, List.take_of_length_le (by simp)]
set_option maxRecDepth 100000 in
theorem r2read_any (s : List UInt8) (A : Option Addr) (cap : Nat) (hs : s.length ≤ 8) (w : World) (hr : Reads w w.heap.size 1 A s.length (s.map bv)) :
    Calls Tryz.prog 80 #[.slice A s.length cap] w fun e w' => e = .returned (.int .u64 (numN s)) ∧ w = w' := by
  have HR := Lib.hid hr
  have hlen : (s.length : Int) ≤ 8 := by omega
  clear hr
  go_enter Tryz.func80, Tryz.ntmps80
  go_wp2
  go_loopw [3, 4] (fun v i wr => ∃ k : Nat, k ≤ s.length ∧ i = .int .i64 k ∧ v = .int .u64 (numN (s.take k)) ∧ wr = w) (fun _ i _ => s.length - (intOf i).toNat)
  case atStart => exact ⟨0, Nat.zero_le _, rfl, rfl, rfl⟩
  case round =>
    obtain ⟨k, hk, rfl, rfl, rfl⟩ := hrel
    by_cases hlt : k < s.length
    · obtain ⟨ad, u, hA, hb, hu, hc⟩ := HR.out.at_ (k := k) hlt
      obtain ⟨c, hck⟩ : ∃ c, s[k]? = some c := ⟨_, List.getElem?_eq_getElem hlt⟩
      have huc : u = bv c := by rw [List.getElem?_map, hck] at hu; simpa using hu.symm
      subst hA
      subst huc
      have hcc : wr.cell? (ad.add k) = some (.int .u8 c.toNat) := hc
      have hnum : numN (s.take (k + 1)) = numN (s.take k) * 256 + c.toNat := by rw [List.take_add_one, hck]; exact numN_snoc _ _
      have hl : numN (s.take k) < 256 ^ 7 := Nat.lt_of_lt_of_le (numN_lt _) (Nat.pow_le_pow_right (by decide) (by rw [List.length_take]; omega))
      have hlI : (numN (s.take k) : Int) ≤ 72057594037927935 := by have : numN (s.take k) < 72057594037927936 := hl; omega
      have hc256 : c.toNat < 256 := c.toNat_lt
      have hcI : (c.toNat : Int) ≤ 255 := by omega
      generalize numN (s.take k) = m at *
      have HNUM := Lib.hid hnum
      clear hck hu hc hb HR hnum hl
      go_wp2
      go_roundw
      case rel => exact ⟨k + 1, by omega, by go_num, by rw [HNUM.out]; congr 1; push_cast; omega, by first | rfl | trivial⟩
      case measure => simp [intOf]; omega
    · obtain rfl : k = s.length := by omega
      rw [List.take_length] at *
      go_wp2
      go_ret
      exact ⟨rfl, rfl⟩
theorem r2ReadFixed_any (s : List UInt8) (A : Option Addr) (cap : Nat) (h1 : 1 ≤ s.length) (hs : s.length ≤ 8) (w : World) (hr : Reads w w.heap.size 1 A s.length (s.map bv)) :
    Calls Tryz.prog 67 #[.slice A s.length cap] w fun e w' => e = .returned (.tuple #[.int .u64 (numN s), .int .i64 0]) ∧ w = w' := by
  have HR := Lib.hid (r2read_any s A cap hs w hr)
  have h1I : (1 : Int) ≤ s.length := by omega
  have h8I : (s.length : Int) ≤ 8 := by omega
  clear hr hs h1
  go_enter Tryz.func67, Tryz.ntmps67
  go_wp2_with fail
  refine HR.out.mono ?_
  rintro e w' ⟨rfl, rfl⟩
  go_wp2
  go_ret2
  exact ⟨rfl, rfl⟩
/-- What the document's first hands back. -/
def GivesRFirst (o : Option (List UInt8)) (w : World) (e : Ending) (w' : World) : Prop :=
  Bel w w' ∧ match o with
  | some o => e = .returned (.tuple #[.string ⟨o.toArray⟩, .bool true])
  | none => ∃ o : List UInt8, e = .returned (.tuple #[.string ⟨o.toArray⟩, .bool false])
set_option maxRecDepth 100000 in
set_option maxHeartbeats 1000000 in
theorem r10first_any (s : List UInt8) (hs : s.length ≤ 1000000000) (w : World) : Calls Tryz.prog 52 #[.string ⟨s.toArray⟩] w (GivesRFirst (firstL s) w) := by
  have hsz : (⟨s.toArray⟩ : ByteArray).size = s.length := rfl
  have hlenH : (s.length : Int) ≤ 1000000000 := by omega
  by_cases h8 : s.length < 8
  · have hf : firstL s = none := by unfold firstL; rw [if_pos h8]
    rw [hf]
    have h8I : (s.length : Int) < 8 := by omega
    clear hf h8
    go_enter Tryz.func52, Tryz.ntmps52
    go_wp2
    go_ret2
    exact ⟨Bel.refl _, [], rfl⟩
  have hfl : firstL s = if 60000 < numN (s.take 4) ∨ s.length - 8 < numN (s.take 4) then none
      else if crc ((s.drop 8).take (numN (s.take 4))) = numN ((s.drop 4).take 4) then some ((s.drop 8).take (numN (s.take 4))) else none := by
    conv => lhs; unfold firstL
    rw [if_neg h8]
  rw [hfl]
  have hl4 : (s.take 4).length = 4 := by simp; omega
  have hl8 : ((s.drop 4).take 4).length = 4 := by simp; omega
  have e4 : (⟨s.toArray⟩ : ByteArray).extract 0 4 = ⟨(s.take 4).toArray⟩ := by rw [mid_bytes]; rfl
  have e8 : (⟨s.toArray⟩ : ByteArray).extract 4 8 = ⟨((s.drop 4).take 4).toArray⟩ := mid_bytes s 4 8
  have c4 := fun W => conv_bytes (s.take 4) W
  have c8 := fun W => conv_bytes ((s.drop 4).take 4) W
  rw [hl4] at c4
  rw [hl8] at c8
  have hm4 : numN (s.take 4) < 4294967296 := by have := numN_lt (s.take 4); rw [hl4] at this; exact this
  have hm8 : numN ((s.drop 4).take 4) < 4294967296 := by have := numN_lt ((s.drop 4).take 4); rw [hl8] at this; exact this
  have R4 := fun W c => Lib.hid (r2ReadFixed_any (s.take 4) (some ⟨W.heap.size, 0, none⟩) c (by omega) (by omega) (Lib.bytesWorld W 5 ⟨(s.take 4).toArray⟩) (bytes_reads _ W))
  have R8 := fun W c => Lib.hid (r2ReadFixed_any ((s.drop 4).take 4) (some ⟨W.heap.size, 0, none⟩) c (by omega) (by omega) (Lib.bytesWorld W 5 ⟨((s.drop 4).take 4).toArray⟩) (bytes_reads _ W))
  rw [hl4] at R4
  rw [hl8] at R8
  have B4 := fun W => Lib.hid (bytes_bel (s.take 4) W)
  have B8 := fun W => Lib.hid (bytes_bel ((s.drop 4).take 4) W)
  have hlenI : (8 : Int) ≤ s.length := by omega
  clear hfl hl4 hl8 h8
  generalize hmany : numN (s.take 4) = many at *
  generalize numN ((s.drop 4).take 4) = sum at *
  have ho : (⟨s.toArray⟩ : ByteArray).extract 8 (8 + many) = ⟨((s.drop 8).take many).toArray⟩ := by rw [mid_bytes, Nat.add_sub_cancel_left]
  have co := fun W => conv_bytes ((s.drop 8).take many) W
  have HSO := fun W c (h : ((s.drop 8).take many).length ≤ 60000) => Lib.hid (r2Sum_any ((s.drop 8).take many) (some ⟨W.heap.size, 0, none⟩) c (by omega) (Lib.bytesWorld W 5 ⟨((s.drop 8).take many).toArray⟩) (bytes_reads _ W))
  have BO := fun W => Lib.hid (bytes_bel ((s.drop 8).take many) W)
  clear hmany
  by_cases hbig : 60000 < many
  · rw [if_pos (.inl hbig)]
    have hbI : (60000 : Int) < many := by omega
    clear hbig ho co HSO BO
    go_enter Tryz.func52, Tryz.ntmps52
    go_wp2_with fail
    refine (R4 _ _).out.mono ?_
    rintro e w1 ⟨rfl, rfl⟩
    go_wp2_with fail
    refine (R8 _ _).out.mono ?_
    rintro e w1 ⟨rfl, rfl⟩
    go_wp2
    go_ret2
    exact ⟨(B4 _).out.then_ (B8 _).out, [], rfl⟩
  by_cases hlong : s.length - 8 < many
  · rw [if_pos (.inr hlong)]
    have hsubI : (s.length : Int) - 8 < many := by omega
    have hbI : (many : Int) ≤ 60000 := by omega
    clear hbig hlong ho co HSO BO
    go_enter Tryz.func52, Tryz.ntmps52
    go_wp2_with fail
    refine (R4 _ _).out.mono ?_
    rintro e w1 ⟨rfl, rfl⟩
    go_wp2_with fail
    refine (R8 _ _).out.mono ?_
    rintro e w1 ⟨rfl, rfl⟩
    go_wp2
    go_ret2
    exact ⟨(B4 _).out.then_ (B8 _).out, [], rfl⟩
  rw [if_neg (by omega)]
  have hsubI : (many : Int) ≤ (s.length : Int) - 8 := by omega
  have hbI : (many : Int) ≤ 60000 := by omega
  have hol : ((s.drop 8).take many).length = many := by simp; omega
  rw [hol] at co
  simp only [hol] at HSO
  have HSO' := fun W c => HSO W c (by omega)
  have hcs : (crc ((s.drop 8).take many) : Int) ≤ 4294967295 := by have := crc_lt ((s.drop 8).take many); omega
  clear HSO hol
  generalize (s.drop 8).take many = o at *
  generalize crc o = c at *
  by_cases hcc : c = sum
  · rw [if_pos hcc]
    have hbq : ((c : Int) == (sum : Int)) = true := by simp; omega
    clear hbig hlong hcc
    go_enter Tryz.func52, Tryz.ntmps52
    go_wp2_with fail
    refine (R4 _ _).out.mono ?_
    rintro e w1 ⟨rfl, rfl⟩
    go_wp2_with fail
    refine (R8 _ _).out.mono ?_
    rintro e w1 ⟨rfl, rfl⟩
    go_wp2_with fail
    refine (HSO' _ _).out.mono ?_
    rintro e w1 ⟨rfl, rfl⟩
    go_wp2
    go_ret2
    exact ⟨((B4 _).out.then_ (B8 _).out).then_ (BO _).out, rfl⟩
  · rw [if_neg hcc]
    have hbq : ((c : Int) == (sum : Int)) = false := by simp; omega
    clear hbig hlong hcc
    go_enter Tryz.func52, Tryz.ntmps52
    go_wp2_with fail
    refine (R4 _ _).out.mono ?_
    rintro e w1 ⟨rfl, rfl⟩
    go_wp2_with fail
    refine (R8 _ _).out.mono ?_
    rintro e w1 ⟨rfl, rfl⟩
    go_wp2_with fail
    refine (HSO' _ _).out.mono ?_
    rintro e w1 ⟨rfl, rfl⟩
    go_wp2
    go_ret2
    exact ⟨((B4 _).out.then_ (B8 _).out).then_ (BO _).out, o, rfl⟩
set_option maxRecDepth 100000 in
theorem r10Whole_any (xs : List (List UInt8)) (t : List UInt8) (hx : ∀ x ∈ xs, x.length ≤ 60000) (ht : firstL t = none) (s : List UInt8) (hs : s = recsN xs ++ t) (hl : s.length ≤ 1000000000) (w : World) :
    Calls Tryz.prog 24 #[.string ⟨s.toArray⟩] w fun e w' => e = .returned (.int .i64 (recsN xs).length) ∧ Bel w w' := by
  have hsz : (⟨s.toArray⟩ : ByteArray).size = s.length := rfl
  have hlI : (s.length : Int) ≤ 1000000000 := by omega
  have hxl : (recsN xs).length ≤ s.length := by rw [hs, List.length_append]; omega
  have HX := Lib.hid hx
  have HT := Lib.hid ht
  have HS := Lib.hid hs
  clear hx ht hs
  go_enter Tryz.func24, Tryz.ntmps24
  go_wp2
  go_loopw [3] (fun i wr => ∃ k : Nat, k ≤ xs.length ∧ i = .int .i64 (recsN (xs.take k)).length ∧ Hid (Bel w wr)) (fun i _ => (recsN xs).length + 1 - (intOf i).toNat)
  case atStart => exact ⟨0, Nat.zero_le _, rfl, Bel.refl w⟩
  case round =>
    obtain ⟨k, hk, rfl, HB⟩ := hrel
    have hle := recs_len xs k
    have hdr : (⟨s.toArray⟩ : ByteArray).extract (recsN (xs.take k)).length s.length = ⟨(s.drop (recsN (xs.take k)).length).toArray⟩ := drop_bytes _ _
    have hdl : (s.drop (recsN (xs.take k)).length).length ≤ 1000000000 := by rw [List.length_drop]; omega
    have HF := Lib.hid (r10first_any (s.drop (recsN (xs.take k)).length) hdl wr)
    have hatI : ((recsN (xs.take k)).length : Int) ≤ s.length := by omega
    by_cases hlt : k < xs.length
    · obtain ⟨x, hxk⟩ : ∃ x, xs[k]? = some x := ⟨_, List.getElem?_eq_getElem hlt⟩
      have hfi : firstL (s.drop (recsN (xs.take k)).length) = some x := by rw [HS.out, drop_recs, recs_at hxk]; exact firstL_rec x _ (HX.out x (List.mem_of_getElem? hxk))
      rw [hfi] at HF
      have HNX := Lib.hid (recs_take hxk)
      have hx6 : (x.length : Int) ≤ 60000 := by have := HX.out x (List.mem_of_getElem? hxk); omega
      have HLE2 := Lib.hid (recs_len xs (k + 1))
      have hsx : (⟨x.toArray⟩ : ByteArray).size = x.length := rfl
      clear hfi hxk hdl hle
      generalize (recsN (xs.take k)).length = at_ at *
      go_wp2_with fail
      refine HF.out.mono ?_
      rintro e w1 ⟨hb, rfl⟩
      have HB1 := Lib.hid (HB.out.then_ hb)
      clear hb HF
      go_wp2
      go_roundw
      case rel => exact ⟨k + 1, by omega, by rw [HNX.out]; first | go_num | (congr 1; omega), HB1.out⟩
      case measure => have h1 := HNX.out; have h2 := HLE2.out; rw [h1] at h2; simp [intOf]; omega
    · obtain rfl : k = xs.length := by omega
      have hfi : firstL (s.drop (recsN (xs.take xs.length)).length) = none := by rw [HS.out, drop_recs, List.drop_length]; exact HT.out
      rw [hfi] at HF
      have HE : Hid ((recsN (xs.take xs.length)).length = (recsN xs).length) := by show _ = _; rw [List.take_length]
      clear hfi hdl hle
      generalize (recsN (xs.take xs.length)).length = at_ at *
      go_wp2_with fail
      refine HF.out.mono ?_
      rintro e w1 ⟨hb, o, rfl⟩
      have HB1 := Lib.hid (HB.out.then_ hb)
      clear hb HF
      go_wp2
      go_ret
      have he := HE.out
      subst he
      exact ⟨rfl, HB1.out⟩
end Go.Proofs.YtiajggmnfaidjaaGreatDoor
