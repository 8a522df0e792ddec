/-
  The chapter's rows over a log: the law's works.
-/
import Derived.Test.YtiajggmnfaidjaaGreatDoorLv
set_option linter.unusedVariables false
set_option linter.unusedSimpArgs false
set_option linter.unusedVariables false
set_option linter.unusedSimpArgs false
namespace Go.Proofs.YtiajggmnfaidjaaGreatDoor
open Go.RowKit

set_option maxRecDepth 100000 in
set_option maxHeartbeats 4000000 in
theorem l10works_any (w : World) (hg : ErrType w) : Calls Tryz.prog 5 #[] w fun e w' => e = .returned (.bool true) ∧ Bel w w' := by
  have hcv := fun (w : World) (C : Array Value) (n c : Nat) => Lib.run_convert_bytes_const (P := Tryz.prog) w 43 5 C n c Tryz.underlying43 Tryz.underlying5
  have HN := fun W => Lib.hid (new_any 1000 (by decide) (by decide) W)
  have HR := fun W => Lib.hid (lw_rec (W := W))
  have HG0 := Lib.hid hg
  clear hg
  go_enter Tryz.func5, Tryz.ntmps5
  go_wp2_with fail
  refine (HR w).out.mono ?_
  rintro e w1 ⟨br, cr, rfl, hcr, hrd, hb1⟩
  have HB1 := Lib.hid hb1
  have HRD := Lib.hid hrd
  have HG := Lib.hid (HG0.out.bel hb1)
  clear hb1 hrd HR HG0
  go_wp2_with fail
  refine (HN w1).out.mono ?_
  rintro e w2 ⟨bd, fp0, rfl, hD, hf, hb⟩
  have HC := Lib.hid (lw_open0 hD (HG.out.bel hb) hb hf)
  clear hb HN hD hf
  go_wp2_with fail
  refine HC.out.mono ?_
  rintro e w3 ⟨bl, rfl, hl⟩
  have HL3 := Lib.hid hl
  have hcv1 := lw_conv (c := cr) (HRD.out.belHeap hl.old)
  have hrI : (17 : Int) ≤ cr := by omega
  clear hl HC HRD
  have HC := Lib.hid (lw_apA HL3.out HG.out)
  go_wp2_with (first | (go_at_call 8; refine (num10_any _ _).mono ?_; rintro e w' ⟨rfl, rfl⟩) | (go_at_call 16; refine HE.out.mono ?_; rintro e w' ⟨rfl, rfl⟩) | (go_at_call 19; refine HT.out.mono ?_; rintro e w' ⟨rfl, rfl⟩))
  refine HC.out.mono ?_
  rintro e w4 ⟨rfl, hl⟩
  have HL4 := Lib.hid hl
  clear hl
  clear HC
  have HC := Lib.hid (lw_apB HL4.out HG.out)
  go_wp2_with (first | (go_at_call 8; refine (num10_any _ _).mono ?_; rintro e w' ⟨rfl, rfl⟩) | (go_at_call 16; refine HE.out.mono ?_; rintro e w' ⟨rfl, rfl⟩) | (go_at_call 19; refine HT.out.mono ?_; rintro e w' ⟨rfl, rfl⟩))
  refine HC.out.mono ?_
  rintro e w5 ⟨rfl, hl⟩
  have HL5 := Lib.hid hl
  clear hl
  clear HC
  have HC := Lib.hid (lw_r0 HL5.out)
  go_wp2_with (first | (go_at_call 8; refine (num10_any _ _).mono ?_; rintro e w' ⟨rfl, rfl⟩) | (go_at_call 16; refine HE.out.mono ?_; rintro e w' ⟨rfl, rfl⟩) | (go_at_call 19; refine HT.out.mono ?_; rintro e w' ⟨rfl, rfl⟩))
  refine HC.out.mono ?_
  rintro e w6 ⟨AX, rfl, hv, hb⟩
  have HL6 := Lib.hid (HL5.out.bel hb)
  have HX := Lib.hid hv
  clear hv hb
  clear HC
  have HC := Lib.hid (lw_r10 HL6.out)
  go_wp2_with (first | (go_at_call 8; refine (num10_any _ _).mono ?_; rintro e w' ⟨rfl, rfl⟩) | (go_at_call 16; refine HE.out.mono ?_; rintro e w' ⟨rfl, rfl⟩) | (go_at_call 19; refine HT.out.mono ?_; rintro e w' ⟨rfl, rfl⟩))
  refine HC.out.mono ?_
  rintro e w7 ⟨AY, rfl, hb⟩
  have HL7 := Lib.hid (HL6.out.bel hb)
  have HX7 := Lib.hid (HX.out.bel hb)
  clear hb HX
  clear HC
  have HC := Lib.hid (lw_r1 HL7.out)
  go_wp2_with (first | (go_at_call 8; refine (num10_any _ _).mono ?_; rintro e w' ⟨rfl, rfl⟩) | (go_at_call 16; refine HE.out.mono ?_; rintro e w' ⟨rfl, rfl⟩) | (go_at_call 19; refine HT.out.mono ?_; rintro e w' ⟨rfl, rfl⟩))
  refine HC.out.mono ?_
  rintro e w8 ⟨rfl, hb⟩
  have HL8 := Lib.hid (HL7.out.bel hb)
  have hcv2 := conv_string (HX7.out.bel hb)
  rw [show strV lab = .string ⟨#[97, 98]⟩ from rfl] at hcv2
  have HE := Lib.hid (lw_end (HL7.out.bel hb))
  clear hb HX7
  clear HC
  have HC := Lib.hid (lw_sync HL8.out)
  go_wp2_with (first | (go_at_call 8; refine (num10_any _ _).mono ?_; rintro e w' ⟨rfl, rfl⟩) | (go_at_call 16; refine HE.out.mono ?_; rintro e w' ⟨rfl, rfl⟩) | (go_at_call 19; refine HT.out.mono ?_; rintro e w' ⟨rfl, rfl⟩))
  refine HC.out.mono ?_
  rintro e w9 ⟨rfl, hl⟩
  have HL9 := Lib.hid hl
  clear hl
  clear HC
  have HC := Lib.hid (lw_apC HL9.out HG.out)
  go_wp2_with (first | (go_at_call 8; refine (num10_any _ _).mono ?_; rintro e w' ⟨rfl, rfl⟩) | (go_at_call 16; refine HE.out.mono ?_; rintro e w' ⟨rfl, rfl⟩) | (go_at_call 19; refine HT.out.mono ?_; rintro e w' ⟨rfl, rfl⟩))
  refine HC.out.mono ?_
  rintro e w10 ⟨rfl, hl⟩
  have HL10 := Lib.hid hl
  clear hl
  clear HC
  have HC := Lib.hid (lw_crash HL10.out)
  go_wp2_with (first | (go_at_call 8; refine (num10_any _ _).mono ?_; rintro e w' ⟨rfl, rfl⟩) | (go_at_call 16; refine HE.out.mono ?_; rintro e w' ⟨rfl, rfl⟩) | (go_at_call 19; refine HT.out.mono ?_; rintro e w' ⟨rfl, rfl⟩))
  refine HC.out.mono ?_
  rintro e w11 ⟨rfl, hl⟩
  have HL11 := Lib.hid hl
  clear hl
  clear HC
  have HC := Lib.hid (lw_open5 HL11.out HG.out)
  go_wp2_with (first | (go_at_call 8; refine (num10_any _ _).mono ?_; rintro e w' ⟨rfl, rfl⟩) | (go_at_call 16; refine HE.out.mono ?_; rintro e w' ⟨rfl, rfl⟩) | (go_at_call 19; refine HT.out.mono ?_; rintro e w' ⟨rfl, rfl⟩))
  refine HC.out.mono ?_
  rintro e w12 ⟨bz, mz, rfl, hl⟩
  have HL12 := Lib.hid hl
  clear HE
  have HE := Lib.hid (lw_end hl)
  have HT := Lib.hid (lw_torn hl)
  clear hl
  clear HC
  go_wp2_with (first | (go_at_call 8; refine (num10_any _ _).mono ?_; rintro e w' ⟨rfl, rfl⟩) | (go_at_call 16; refine HE.out.mono ?_; rintro e w' ⟨rfl, rfl⟩) | (go_at_call 19; refine HT.out.mono ?_; rintro e w' ⟨rfl, rfl⟩))
  go_ret
  exact ⟨rfl, HB1.out.then_ HL12.out.old⟩
end Go.Proofs.YtiajggmnfaidjaaGreatDoor
