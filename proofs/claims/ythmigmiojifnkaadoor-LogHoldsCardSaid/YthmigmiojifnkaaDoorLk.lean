/-
  LogHolds: its walk up to the question whether the records are few and short.
-/
import Derived.Test.YthmigmiojifnkaaDoorLh
import Derived.Test.YthmigmiojifnkaaDoorLx
set_option linter.unusedVariables false
set_option linter.unusedSimpArgs false
set_option linter.unusedVariables false
set_option linter.unusedSimpArgs false
namespace Go.Proofs.YthmigmiojifnkaaDoor
open Go.RowKit

/-- The longest one's length. -/
def mxL : List (List UInt8) → Nat
  | [] => 0
  | x :: l => max x.length (mxL l)
theorem mxL_snoc (l : List (List UInt8)) (x : List UInt8) : mxL (l ++ [x]) = max (mxL l) x.length := by
  induction l with
  | nil => simp [mxL]
  | cons y l ih => rw [List.cons_append, mxL, ih, mxL, Nat.max_assoc]
theorem mxL_le {l : List (List UInt8)} {n : Nat} (h : mxL l ≤ n) : ∀ x ∈ l, x.length ≤ n := by
  induction l with
  | nil => intro x hx; cases hx
  | cons y l ih =>
    rw [mxL] at h
    intro x hx
    rcases List.mem_cons.1 hx with rfl | hx
    · exact Nat.le_trans (Nat.le_max_left _ _) h
    · exact ih (Nat.le_trans (Nat.le_max_right _ _) h) x hx
theorem mxL_bound {l : List (List UInt8)} {n : Nat} (h : ∀ x ∈ l, x.length ≤ n) : mxL l ≤ n := by
  induction l with
  | nil => exact Nat.zero_le _
  | cons y l ih => exact Nat.max_le.2 ⟨h y (by simp), ih (fun x hx => h x (by simp [hx]))⟩
theorem maxI (a b : Nat) : (if (a : Int) ≤ b then (b : Int) else a) = ((max a b : Nat) : Int) := by split <;> omega
theorem ite_maxL (a b : Int) : (if a ≤ b then b else a) = max a b := by split <;> omega
set_option maxRecDepth 100000 in
set_option maxHeartbeats 4000000 in
theorem lholds_any (A : Option Addr) (cap : Nat) (L : List (List UInt8)) (synced k0 k1 t0 t1 : Int) (hm : L.length ≤ maxLen) (hLm : ∀ s ∈ L, s.length ≤ maxLen) (hcap : L.length ≤ cap) (w : World) (hg : ErrType w) (hL : ListAt w A L) :
    Calls Tryd.prog 5 #[.slice A L.length cap, .int .i64 synced, .agg #[.int .i64 k0, .int .i64 k1], .agg #[.int .i64 t0, .int .i64 t1]] w fun e w' => e = .returned (.bool true) ∧ Bel w w' := by
  have HLM := Lib.hid hLm
  have HL := Lib.hid hL
  have HCAP := Lib.hid hcap
  have HG := Lib.hid hg
  have HW := fun w' (hb : Bel w w') => Lib.hid (l10works_any w' (hg.bel hb))
  obtain ⟨W, hW⟩ : ∃ W, W = (w.alloc (.cells #[.int .i64 k0, .int .i64 k1] 56)).alloc (.cells #[.int .i64 t0, .int .i64 t1] 56) := ⟨_, rfl⟩
  have hbW : Bel w W := by rw [hW]; exact ((Bel.refl w).alloc _).alloc _
  have c0 : W.cell? ⟨w.heap.size, 0, none⟩ = some (.int .i64 k0) := by rw [hW]; go_simp
  have c1 : W.cell? ⟨w.heap.size, 1, none⟩ = some (.int .i64 k1) := by rw [hW]; go_simp
  have c2 : W.cell? ⟨w.heap.size + 1, 0, none⟩ = some (.int .i64 t0) := by rw [hW]; go_simp
  have c3 : W.cell? ⟨w.heap.size + 1, 1, none⟩ = some (.int .i64 t1) := by rw [hW]; go_simp
  have hmI : (L.length : Int) ≤ 9223372036854775807 := by unfold maxLen at hm; omega
  have HBW := Lib.hid hbW
  clear hg hL hm hLm hbW hcap
  go_enter Tryd.func5, Tryd.ntmps5
  go_wp2
  rw [← hW]
  have HWW := Lib.hid hW
  clear hW
  have hmx := ite_maxL
  go_loopw [9, 10] (fun n i wr => ∃ k : Nat, k ≤ L.length ∧ k ≤ 21 ∧ i = .int .i64 k ∧ n = .int .i64 (mxL (L.take k) : Nat) ∧ wr = W) (fun n i _ => 21 - (intOf i).toNat)
  case atStart => exact ⟨0, Nat.zero_le _, by omega, rfl, rfl, rfl⟩
  case round =>
    obtain ⟨k, hk, hk21, rfl, rfl, hwr⟩ := hrel
    have hwr' := hwr.symm
    clear hwr
    subst hwr'
    by_cases hlt : k < L.length ∧ k ≤ 20
    · obtain ⟨x, hx⟩ : ∃ x, L[k]? = some x := ⟨_, List.getElem?_eq_getElem hlt.1⟩
      obtain ⟨vs, hvl, hrd, hat⟩ := HL.out.bel HBW.out
      obtain ⟨Ai, ci, hvi, hri⟩ := hat _ _ hx
      obtain ⟨g, off, hA, hadb, hcs⟩ := hrd (by omega)
      have hcu := hcs _ _ hvi
      subst hA
      have hsn : ((mxL (L.take (k + 1)) : Nat) : Int) = max ((mxL (L.take k) : Nat) : Int) (x.length : Int) := by
        rw [List.take_add_one, hx]
        show ((mxL (L.take k ++ [x]) : Nat) : Int) = _
        rw [mxL_snoc]
        omega
      have HSN := Lib.hid hsn
      have hkI : (k : Int) < L.length := by omega
      have hk20 : (k : Int) ≤ 20 := by omega
      clear hx hrd hat hvi hri hcs hsn
      generalize mxL (L.take k) = N at *
      go_wp2
      go_roundw
      case rel => exact ⟨k + 1, by omega, by omega, by go_num, by rw [HSN.out]; congr 1; split <;> omega, by first | rfl | trivial⟩
      case measure => simp [intOf]; omega
    · have hfin : L.length ≤ 20 → k = L.length := fun h => by omega
      have hbig : ¬ L.length ≤ 20 → k = 21 := fun h => by omega
      by_cases hL20 : L.length ≤ 20
      · obtain rfl := hfin hL20
        clear hfin hbig hlt
        have HL20 := Lib.hid hL20
        have hmxl : mxL L ≤ maxLen := mxL_bound HLM.out
        rw [List.take_length]
        have hNI : (mxL L : Int) ≤ 9223372036854775807 := by unfold maxLen at hmxl; omega
        have hLI : (L.length : Int) ≤ 20 := by omega
        have HLT := Lib.hid (mxL_le (l := L) (n := 60))
        clear hmxl hL20
        generalize mxL L = N at *
        by_cases hgood : (N : Int) ≤ 60 ∧ 0 ≤ synced ∧ synced ≤ L.length ∧ 0 ≤ k0 ∧ 0 ≤ k1 ∧ 0 ≤ t0 ∧ 0 ≤ t1
        · obtain ⟨hN, hs0, hsL, hk0, hk1, ht0, ht1⟩ := hgood
          have HLW := Lib.hid (HL.out.bel HBW.out)
          have HGW := Lib.hid (HG.out.bel HBW.out)
          go_wp2_with fail
          refine (new_any 5000 (by decide) (by decide) _).mono ?_
          rintro e w2 ⟨bd, fp0, rfl, hD, hf, hb⟩
          have HST := Lib.hid (t_start hD HGW.out hb hf HLW.out)
          clear hD hf hb
          go_wp2_with (go_at_call 22; refine (num10_any _ _).mono ?_; rintro e w' ⟨rfl, rfl⟩)
          refine HST.out.mono ?_
          rintro e w3 ⟨bl, rfl, hT⟩
          have HT := Lib.hid hT
          have HLT60 := Lib.hid (HLT.out (by omega))
          have HKS : Hid (W.cell? ⟨w.heap.size, 0, none⟩ = some (.int .i64 k0) ∧ W.cell? ⟨w.heap.size, 1, none⟩ = some (.int .i64 k1) ∧ W.cell? ⟨w.heap.size + 1, 0, none⟩ = some (.int .i64 t0) ∧ W.cell? ⟨w.heap.size + 1, 1, none⟩ = some (.int .i64 t1)) := ⟨c0, c1, c2, c3⟩
          clear hT HST c0 c1 c2 c3 HLT
          go_wp2
          go_loopw [13, 14, 15, 16, 17] (fun g f had least tn wx => ∃ turn : Nat, turn ≤ 2 ∧ tn = .int .i64 turn ∧ Hid (OuterIs W wx bd L turn g f had least)) (fun g f had least tn _ => 2 - (intOf tn).toNat)
          case atStart => exact ⟨0, by omega, rfl, ⟨bl, _, A, cap, L, 0, rfl, rfl, rfl, rfl, HT.out, stand_new L, Nat.zero_le _, HCAP.out, HLT60.out, HL20.out, fun _ => ⟨rfl, rfl⟩⟩⟩
          case round =>
            obtain ⟨turn, htn, rfl, HO⟩ := hrel
            by_cases hlt : turn < 2
            · obtain ⟨bx, m, AH, capH, H, q, rfl, rfl, rfl, rfl, hT, hS, hq, hcapH, hH, hl, h0⟩ := HO.out
              have hltI : (turn : Int) < 2 := by omega
              have hHI : (H.length : Int) ≤ 60 := by omega
              have hqI : (q : Int) ≤ H.length := by omega
              have HIN := Lib.hid (InnerIs.start (synced := synced) hT hS)
              have HH := Lib.hid hH
              have HH60 : Hid (H.length ≤ 60) := by show _ ≤ _; omega
              have HQ := Lib.hid hq
              have HLL := Lib.hid hl
              have HZ := Lib.hid h0
              have HCH := Lib.hid hcapH
              clear HO hT hS hH hq hl h0 hcapH
              go_wp2
              go_loopw [18] (fun i wx => ∃ k : Nat, i = .int .i64 k ∧ q ≤ k ∧ k ≤ H.length ∧ Hid (InnerIs W wx bx bd AH H synced q k)) (fun i _ => H.length - (intOf i).toNat)
              case atStart => exact ⟨q, rfl, Nat.le_refl _, HQ.out, HIN.out⟩
              case round =>
                obtain ⟨k, rfl, hqk, hkH, HI⟩ := hrel
                have hkI : (k : Int) ≤ H.length := by omega
                by_cases hk : k < H.length
                · obtain ⟨x, hx⟩ : ∃ x, H[k]? = some x := ⟨_, List.getElem?_eq_getElem hk⟩
                  have hkI2 : (k : Int) < H.length := by omega
                  have HX := Lib.hid hx
                  by_cases hsy : (k : Int) = synced
                  · have hsb : ((k : Int) == synced) = true := by simpa using hsy
                    have HSY := Lib.hid (HI.out.sync HH.out HH60.out)
                    clear hx hsy
                    go_wp2_with fail
                    refine HSY.out.mono ?_
                    rintro e w4 ⟨rfl, hs4⟩
                    obtain ⟨g, off, Ai, ci, rfl, hcell, hrd⟩ := hs4.at_ HX.out
                    have HPUT := Lib.hid (hs4.put (synced := synced) (q := q) HGW.out HH.out HH60.out x HX.out Ai ci hrd)
                    clear hs4 hrd HSY
                    go_wp2_with (go_at_call 22; refine (num10_any _ _).mono ?_; rintro e w' ⟨rfl, rfl⟩)
                    refine HPUT.out.mono ?_
                    rintro e w5 ⟨⟨n5, rfl⟩, hI5⟩
                    have HI5 := Lib.hid hI5
                    clear hI5 HPUT
                    go_wp2_with (go_at_call 22; refine (num10_any _ _).mono ?_; rintro e w' ⟨rfl, rfl⟩)
                    go_roundw
                    case rel => exact ⟨k + 1, by go_num, by omega, by omega, HI5.out⟩
                    case measure => simp [intOf]; omega
                  · have hsb : ((k : Int) == synced) = false := beq_eq_false_iff_ne.2 hsy
                    obtain ⟨g, off, Ai, ci, rfl, hcell, hrd⟩ := HI.out.at_ HX.out
                    have HPUT := Lib.hid (HI.out.put hsy HGW.out HH.out HH60.out x HX.out Ai ci hrd)
                    clear hrd hx hsy
                    go_wp2_with (go_at_call 22; refine (num10_any _ _).mono ?_; rintro e w' ⟨rfl, rfl⟩)
                    refine HPUT.out.mono ?_
                    rintro e w5 ⟨⟨n5, rfl⟩, hI5⟩
                    have HI5 := Lib.hid hI5
                    clear hI5 HPUT
                    go_wp2_with (go_at_call 22; refine (num10_any _ _).mono ?_; rintro e w' ⟨rfl, rfl⟩)
                    go_roundw
                    case rel => exact ⟨k + 1, by go_num, by omega, by omega, HI5.out⟩
                    case measure => simp [intOf]; omega
                · obtain rfl : k = H.length := by omega
                  have hke := decide_eq_false (show ¬ ((H.length : Int) < H.length) by omega)
                  obtain ⟨kk, tt, hkk0, htt0, hck, hct⟩ : ∃ kk tt : Int, 0 ≤ kk ∧ 0 ≤ tt ∧ W.cell? ⟨w.heap.size, turn, none⟩ = some (.int .i64 kk) ∧ W.cell? ⟨w.heap.size + 1, turn, none⟩ = some (.int .i64 tt) := by
                    have h2 : turn = 0 ∨ turn = 1 := by omega
                    obtain ⟨q0, q1, q2, q3⟩ := HKS.out
                    rcases h2 with rfl | rfl
                    · exact ⟨k0, t0, hk0, ht0, q0, q2⟩
                    · exact ⟨k1, t1, hk1, ht1, q1, q3⟩
                  have HCK := Lib.hid (And.intro hck hct)
                  have hbd : Bel wr wr.drew := (Bel.refl wr).drew
                  have HCR := Lib.hid ((HI.out.bel hbd).crash HH.out HH60.out kk tt hkk0 htt0)
                  have hS0 : (fun V : World => V.cell? ⟨w.heap.size, turn, none⟩ = some (.int .i64 kk) ∧ V.cell? ⟨w.heap.size + 1, turn, none⟩ = some (.int .i64 tt)) wr.drew := ⟨HI.out.old.c hck, HI.out.old.c hct⟩
                  clear hck hct hkk0 htt0 hbd
                  go_wp2
                  go_region_held3 (fun V : World => V.cell? ⟨w.heap.size, turn, none⟩ = some (.int .i64 kk) ∧ V.cell? ⟨w.heap.size + 1, turn, none⟩ = some (.int .i64 tt))
                    (first | assumption | exact hS0 | exact ⟨hA5.turn.old.c HCK.out.1, hA5.turn.old.c HCK.out.2⟩)
                    ((first | (go_at_call 22; refine (num10_any _ _).mono ?_; rintro e w' ⟨rfl, rfl⟩) | (go_at_call 15; refine HCR.out.mono ?_; rintro e w5 ⟨rfl, r, t5, m5, n5, hA5⟩)))
                  have HOP := Lib.hid (hA5.open HGW.out HH.out)
                  clear hA5 hS0 HI HIN HCR
                  go_wp2_with fail
                  refine HOP.out.mono ?_
                  rintro e w6 ⟨bl6, m6, rfl, hO6⟩
                  have HTO := Lib.hid (hO6.told HH.out HH60.out capH)
                  clear hO6 HOP
                  go_wp2_with fail
                  refine HTO.out.mono ?_
                  rintro e w7 ⟨rfl, hO7⟩
                  have hrH := hO7.le
                  have hrI : (r : Int) ≤ H.length := by omega
                  have hrc : r ≤ capH := Nat.le_trans hrH HCH.out
                  have hrcI : (r : Int) ≤ capH := by omega
                  have HNO : Hid (¬ (turn = 0 ∧ synced < L.length ∧ (r : Int) < synced)) := by
                    rintro ⟨h1, h2, h3⟩
                    obtain ⟨rfl, rfl⟩ := HZ.out h1
                    have := hO7.least hs0 h2
                    omega
                  have HO7 := Lib.hid hO7
                  clear hO7 HTO
                  obtain ⟨vs, hel, hrd7⟩ := HO7.out.turn.row
                  obtain ⟨us, huel, hurd⟩ := list_row HLW.out
                  obtain ⟨i0, hi0, hz0, hz1, hz2⟩ := info_parts infoBs
                  have hone : (0 : Nat) < 1 := by omega
                  have HC1 : Hid ((w7.alloc (.cells #[] 31)).ownsRow w7.heap.size 31 1 (.slice (some ⟨w7.heap.size, 0, none⟩) 0 0) 0 []) := ⟨by simp, .inr ⟨w7.heap.size, 0, #[], rfl, Nat.le_refl _, World.alloc_heap_new _ _, Nat.le_refl _, Nat.zero_le _, rfl, rfl⟩⟩
                  have hb8 : Bel w7 (w7.alloc (.cells #[] 31)) := (Bel.refl w7).alloc _
                  have HC2 := Lib.hid (hrd7 r hrH _ hb8)
                  have HC3 := Lib.hid (hel.take r).one
                  have HC4 : Hid (0 + r ≤ maxLen) := by show _ ≤ _; have := HH60.out; unfold maxLen; omega
                  have HC5 : Hid ((0 + r) * 24 ≤ 140737488355328) := by show _ ≤ _; have := HH60.out; omega
                  have HC6 : Hid (w7.heap.size ≤ (w7.alloc (.cells #[] 31)).heap.size) := hb8.size
                  have HB8 := Lib.hid hb8
                  have HD3 := Lib.hid huel.one
                  have HD4 : Hid (r + L.length ≤ maxLen) := by show _ ≤ _; have := HH60.out; have := HL20.out; unfold maxLen; omega
                  have HD5 : Hid ((r + L.length) * 24 ≤ 140737488355328) := by show _ ≤ _; have := HH60.out; have := HL20.out; omega
                  have HURD := Lib.hid hurd
                  have HEL := Lib.hid ((hel.take r).append huel)
                  have HRH := Lib.hid hrH
                  clear hrd7 hb8 hrH hrc hel huel hurd
                  go_wp2_with (first
                    | (go_at_call 22; refine (num10_any _ _).mono ?_; rintro e w' ⟨rfl, rfl⟩)
                    | (at_builtin; refine wpList_append_any _ rfl (.tmp 169) (.tmp 172) _ rfl w7.heap.size 31 i0 _ 1 24 Tryd.underlying55 hi0 hz0 hz1 hz2 rfl hone _ 0 [] rfl HC1.out _ AH r capH _ rfl HC2.out HC3.out HC4.out HC5.out HC6.out ?_
                       intro v8 w8 hown8 hg8 hat8
                       simp only [Nat.zero_add, List.nil_append] at hown8
                       obtain ⟨A8, c8, rfl, hc8⟩ := row_slice hown8
                       have hb9 : Bel w7 w8 := Below.grown HB8.out hg8 HB8.out.size (fun j e => (HC1.out.lt j e).1)
                       have HE1 := Lib.hid hown8
                       have HE2 := Lib.hid (HURD.out w8 (HO7.out.turn.old.then_ hb9))
                       have HE6 : Hid (w7.heap.size ≤ w8.heap.size) := hb9.size
                       have HB9 := Lib.hid hb9
                       clear hown8 hg8 hat8 hb9 hc8)
                    | (at_builtin; refine wpList_append_any _ rfl (.tmp 173) (.tmp 174) _ rfl w7.heap.size 31 i0 _ 1 24 Tryd.underlying55 hi0 hz0 hz1 hz2 rfl hone _ r _ rfl HE1.out _ A L.length cap _ rfl HE2.out HD3.out HD4.out HD5.out HE6.out ?_
                       intro v9 w9 hown9 hg9 hat9
                       obtain ⟨A9, c9, rfl, hc9⟩ := row_slice hown9
                       have hb10 : Bel w7 w9 := Below.grown HB9.out hg9 HB9.out.size (fun j e => (HE1.out.lt j e).1)
                       have HF1 := Lib.hid hown9
                       have HF9 := Lib.hid hc9
                       have HB10 := Lib.hid hb10
                       clear hown9 hg9 hat9 hb10 hc9))
                  all_goals
                    first
                    | (exfalso; have := HNO.out; omega)
                    | skip
                  all_goals
                    have htk : (H.take r ++ L).take r = H.take r := List.take_left' (by have := HRH.out; rw [List.length_take]; omega)
                    have hln : r + L.length = (H.take r ++ L).length := by have := HRH.out; rw [List.length_append, List.length_take]; omega
                    have hT9 : Turn W w9 bl6 bd m6 (recsN ((H.take r ++ L).take r)).length A9 (H.take r ++ L) := by
                      rw [htk]
                      exact HO7.out.turn.with_ HB10.out HF1.out hln HEL.out
                    have hOut : OuterIs W w9 bd L (turn + 1) (.pointer (some ⟨bl6, 0, none⟩)) (.int .i64 0) (.slice A9 (r + L.length) c9) (.int .i64 r) :=
                      ⟨bl6, m6, A9, c9, H.take r ++ L, r, rfl, rfl, by rw [← hln], rfl, hT9, HO7.out.next _ htk, by omega, by rw [← hln]; exact HF9.out, (fun x hx => by
                        rcases List.mem_append.1 hx with hx | hx
                        · exact HH.out x (List.mem_of_mem_take hx)
                        · exact HLT60.out x hx), by rw [← hln]; have := HRH.out; have := HL20.out; have := HLL.out; omega, (fun h => by omega)⟩
                    have HOUT := Lib.hid hOut
                    clear hOut hT9 htk hln
                    go_wp2
                    go_roundw
                    case rel => exact ⟨turn + 1, by omega, by go_num, HOUT.out⟩
                    case measure => simp [intOf]; omega
            · obtain rfl : turn = 2 := by omega
              have hB : Bel W wr := by obtain ⟨_, _, _, _, _, _, -, -, -, -, hT, -⟩ := HO.out; exact hT.old
              have HB := Lib.hid hB
              clear hB HO
              go_wp2_with fail
              refine (HW _ (HBW.out.then_ HB.out)).out.mono ?_
              rintro e w9 ⟨rfl, hb9⟩
              have HB9 := Lib.hid ((HBW.out.then_ HB.out).then_ hb9)
              clear hb9
              go_wp2
              go_ret
              exact ⟨rfl, HB9.out⟩
        · go_wp2_with fail
          all_goals
            first
            | (exfalso; omega)
            | (refine (HW _ HBW.out).out.mono ?_
               rintro e w2 ⟨rfl, hb2⟩
               have HB2 := Lib.hid (HBW.out.then_ hb2)
               clear hb2
               go_wp2
               go_ret
               exact ⟨rfl, HB2.out⟩)
      · obtain rfl := hbig hL20
        have h1 : (20 : Int) < L.length := by omega
        have hNb : mxL (L.take 21) ≤ maxLen := mxL_bound (fun x hx => HLM.out x (List.mem_of_mem_take hx))
        have hNI : (mxL (L.take 21) : Int) ≤ 9223372036854775807 := by unfold maxLen at hNb; omega
        generalize mxL (L.take 21) = N at *
        clear hfin hbig hlt hL20 hNb
        go_wp2_with fail
        all_goals
          first
          | (exfalso; omega)
          | (refine (HW _ HBW.out).out.mono ?_
             rintro e w2 ⟨rfl, hb2⟩
             have HB2 := Lib.hid (HBW.out.then_ hb2)
             clear hb2
             go_wp2
             go_ret
             exact ⟨rfl, HB2.out⟩)
end Go.Proofs.YthmigmiojifnkaaDoor
