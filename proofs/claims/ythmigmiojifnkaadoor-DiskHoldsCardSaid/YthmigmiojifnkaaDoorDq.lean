/-
  DiskHolds: its walk.
-/
import Derived.Test.YthmigmiojifnkaaDoorDj
import Derived.Deep.QuietTactic
set_option linter.unusedVariables false
set_option linter.unusedSimpArgs false
set_option linter.unusedVariables false
set_option linter.unusedSimpArgs false
namespace Go.Proofs.YthmigmiojifnkaaDoor
open Go.RowKit

def sv (s : List UInt8) : Value := .string ⟨s.toArray⟩
theorem sv_one (H : List (List UInt8)) : ∀ u ∈ H.map sv, u.oneCell' = true := fun u hu => by
  obtain ⟨s, _, rfl⟩ := List.mem_map.1 hu
  rfl
theorem infoStr : (Tryd.prog.info? 9).map (fun i => (i.zero, i.size, i.bytes)) = some (some (.string ⟨#[]⟩), 1, 16) := by kernel_rfl
theorem reads_one (w : World) (T : TypeId) (v : Value) : Reads (w.alloc (.cells #[v] T)) (w.heap.size + 1) 1 (some ⟨w.heap.size, 0, none⟩) 1 [v] := by
  refine ⟨rfl, fun _ => ⟨_, rfl, by simp, fun j u hu => ?_⟩⟩
  have hb := World.alloc_heap_new w (.cells #[v] T)
  rw [add_free, Nat.zero_add]
  simp only [World.cell?, hb]
  simpa using hu
theorem own_app {w wA w9 : World} {bd n0 : Nat} {m : DM} {fp : Nat → Prop} {v0 v9 : Value} {xs : List Value} {o : Obj} (hD : DiskIs wA bd m fp) (hB : Bel w wA) (hown : wA.ownsRow w.heap.size 9 1 v0 n0 xs) (hna : ∀ g, v0.ownBlock = some g → ¬ fp g)
    (hg : (wA.alloc o).grownBy w9 v0.ownBlock) (hat : v9.ownBlock = v0.ownBlock ∨ v9.ownBlock = some (wA.alloc o).heap.size) :
    DiskIs w9 bd m (fun b => fp b ∧ b < wA.heap.size) ∧ (∀ g, v9.ownBlock = some g → ¬ (fp g ∧ g < wA.heap.size)) ∧ Bel w w9 := by
  refine ⟨hD.tight.kept fun b hb _ => ?_, fun g hv hf => ?_, Below.grown (hB.alloc o) hg (by have := hB.size; simp; omega) (fun j e => (hown.lt j e).1)⟩
  · exact (hg.block b (by simp; omega) (fun e => hna b e.symm hb.1)).trans (Below.heap_alloc _ _ _ hb.2)
  · rcases hat with h | h
    · exact hna g (h ▸ hv) hf.1
    · rw [h] at hv
      simp at hv
      omega
theorem crash_bound {m : DM} (h : RFit m) (keep torn : Int) (hk0 : 0 ≤ keep) (k : Nat) (f : Int) (h0 : 0 ≤ f) (h64 : f < 64) : (crashTo m keep torn k f).length ≤ 16777216 + 16777216 := by
  by_cases hk : k ≤ m.loose.length
  · by_cases hle : (k : Int) ≤ keep
    · rw [crashTo_upTo m keep torn k hk hle]
      have := h.len k f h0 h64
      omega
    · obtain ⟨d, hd⟩ : ∃ d, k = keep.toNat + 1 + d := ⟨k - (keep.toNat + 1), by omega⟩
      rw [hd, crashTo_stay m keep torn hk0 d (by omega)]
      obtain ⟨x, hx⟩ : ∃ x, m.loose[keep.toNat]? = some x := ⟨_, List.getElem?_eq_getElem (by omega)⟩
      rw [crashTo_succ hx, crashTo_upTo m keep torn keep.toNat (by omega) (by omega)]
      have h1 := h.len keep.toNat f h0 h64
      have h2 := h.bytes x (List.mem_of_getElem? hx)
      unfold crashF
      rw [if_neg (by omega)]
      split
      · unfold doneF setF
        split
        · rename_i hf
          show ((m.upTo keep.toNat x.file) ++ x.bytes.take torn.toNat).length ≤ _
          have h3 : (m.upTo keep.toNat x.file).length ≤ 16777216 := by have := hf; rw [show x.file = f from this.symm]; exact h1
          rw [List.length_append, List.length_take]
          omega
        · omega
      · omega
  · have e : ∀ d, crashTo m keep torn (m.loose.length + d) = crashTo m keep torn m.loose.length := fun d => by
      induction d with
      | zero => rfl
      | succ d ih =>
        have hn : m.loose[m.loose.length + d]? = none := List.getElem?_eq_none (by omega)
        rw [show m.loose.length + (d + 1) = (m.loose.length + d) + 1 by omega, ← ih]
        simp [crashTo, hn]
    obtain ⟨d, rfl⟩ : ∃ d, k = m.loose.length + d := ⟨k - m.loose.length, by omega⟩
    rw [e]
    have := (h.crash keep torn hk0).len 0 f h0 h64
    show _ ≤ _
    have h2 : (m.crash keep torn).upTo 0 f = crashTo m keep torn m.loose.length f := rfl
    rw [h2] at this
    omega
/-- How it stands at a call. -/
def DSt (w wr : World) (dv hv : Value) (k : Nat) (room file : Int) : Prop :=
  ∃ (bd : Nat) (m : DM) (fp : Nat → Prop) (H : List (List UInt8)) (A : Option Addr) (c : Nat), dv = .pointer (some ⟨bd, 0, none⟩) ∧ hv = .slice A H.length c ∧ DiskIs wr bd m fp ∧ (∀ b, fp b → w.heap.size ≤ b) ∧ Bel w wr ∧
    wr.ownsRow w.heap.size 9 1 (.slice A H.length c) H.length (H.map sv) ∧ (∀ g, (Value.slice A H.length c).ownBlock = some g → ¬ fp g) ∧ RFit m ∧ m.room = room ∧ m.loose.length ≤ k ∧ Tr (fun k => m.upTo k file) H m.loose.length ∧ H.length ≤ k + 1
theorem dst_next {w w5 w9 : World} {bd n0 c9 k : Nat} {m : DM} {fp : Nat → Prop} {v0 : Value} {H0 : List (List UInt8)} {S : List UInt8} {A9 : Option Addr} {o : Obj} {room file : Int} (hD : DiskIs w5 bd m fp) (hfp : ∀ b, fp b → w.heap.size ≤ b) (hB : Bel w w5) (hown : w5.ownsRow w.heap.size 9 1 v0 n0 (H0.map sv)) (hna : ∀ g, v0.ownBlock = some g → ¬ fp g) (hn : n0 = H0.length)
    (hown9 : w9.ownsRow w.heap.size 9 1 (.slice A9 (n0 + 1) c9) (n0 + 1) (H0.map sv ++ [sv S])) (hg : (w5.alloc o).grownBy w9 v0.ownBlock) (hat : (Value.slice A9 (n0 + 1) c9).ownBlock = v0.ownBlock ∨ (Value.slice A9 (n0 + 1) c9).ownBlock = some (w5.alloc o).heap.size)
    (hRF : RFit m) (hroom : m.room = room) (hll : m.loose.length ≤ k) (hTr : Tr (fun k => m.upTo k file) (H0 ++ [S]) m.loose.length) (hk : n0 ≤ k) : DSt w w9 (.pointer (some ⟨bd, 0, none⟩)) (.slice A9 (n0 + 1) c9) k room file := by
  obtain ⟨h1, h2, h3⟩ := own_app hD hB hown hna hg hat
  have hl : (H0 ++ [S]).length = n0 + 1 := by simp [hn]
  refine ⟨bd, m, _, H0 ++ [S], A9, c9, rfl, by rw [hl], h1, fun b hb => hfp b hb.1, h3, ?_, ?_, hRF, hroom, hll, hTr, by omega⟩
  · rw [hl, List.map_append]
    exact hown9
  · rw [hl]
    exact h2
set_option maxRecDepth 100000 in
set_option maxHeartbeats 20000000 in
theorem dholds_any (room keep torn file : Int) (A : Option Addr) (cap : Nat) (L : List C9) (hm : L.length ≤ maxLen) (hLm : ∀ x ∈ L, x.s.length ≤ maxLen) (w : World) (hg : ErrType w) (h : CallsAt w A L) :
    Calls Tryd.prog 3 #[.int .i64 room, .slice A L.length cap, .int .i64 keep, .int .i64 torn, .int .i64 file] w fun e w' => e = .returned (.bool true) ∧ Bel w w' := by
  have HF := Lib.hid (few_any A cap L hm hLm w h)
  have HL := Lib.hid h
  have HG := Lib.hid hg
  have HW := fun w' (hb : Bel w w') => Lib.hid (dworks_any w' (hg.bel hb))
  clear h hg hm hLm
  by_cases hgood : 1 ≤ room ∧ room ≤ 2000 ∧ (L.length ≤ 20 ∧ ∀ x ∈ L, x.s.length ≤ 60) ∧ 0 ≤ file ∧ file ≤ 63 ∧ 0 ≤ keep ∧ 0 ≤ torn
  · obtain ⟨hr1, hr2, hfew, hf0, hf63, hk0, ht0⟩ := hgood
    have hdt : decide (L.length ≤ 20 ∧ ∀ x ∈ L, x.s.length ≤ 60) = true := decide_eq_true hfew
    rw [hdt] at HF
    clear hdt
    have HFEW := Lib.hid hfew
    clear hfew
    go_enter Tryd.func3, Tryd.ntmps3
    go_wp2_with (go_at_call 8; refine HF.out.mono ?_; rintro e w' ⟨rfl, rfl⟩)
    refine (new_any room hr1 (by omega) _).mono ?_
    rintro e w2 ⟨bd0, fp0, rfl, hD0, hfp0, hb0⟩
    have HD0 := Lib.hid hD0
    have HFP0 := Lib.hid hfp0
    have HB0 := Lib.hid hb0
    clear hD0 hfp0 hb0
    go_wp2_with (go_at_call 11; refine (num_any _ _).mono ?_; rintro e w' ⟨rfl, rfl⟩)
    have hLI : (L.length : Int) ≤ 20 := by have := HFEW.out.1; omega
    have HST : Hid (DSt w (w2.alloc (.cells #[.string ⟨#[]⟩] 9)) (.pointer (some ⟨bd0, 0, none⟩)) (.slice (some ⟨w2.heap.size, 0, none⟩) 1 1) 0 room file) := by
      have hal : Bel w2 (w2.alloc (.cells #[.string ⟨#[]⟩] 9)) := (Bel.refl w2).alloc _
      have h2 := HB0.out.size
      refine ⟨bd0, DM.new room, fun b => fp0 b ∧ b < w2.heap.size, [[]], _, _, rfl, rfl, HD0.out.tight.bel hal, fun b hb => HFP0.out b hb.1, HB0.out.then_ hal, ⟨rfl, .inr ⟨w2.heap.size, 1, #[.string ⟨#[]⟩], rfl, h2, World.alloc_heap_new _ _, Nat.le_refl _, by decide, rfl, rfl⟩⟩, fun g hg hf => ?_, RFit.new room hr1 (by omega), rfl, by simp [DM.new], .base, by simp⟩
      have : w2.heap.size = g := Option.some.inj hg
      have := hf.2
      omega
    go_loopw [11, 13, 14] (fun d had i wr => ∃ k : Nat, k ≤ L.length ∧ i = .int .i64 k ∧ Hid (DSt w wr d had k room file)) (fun d had i _ => L.length - (intOf i).toNat)
    case atStart => exact ⟨0, Nat.zero_le _, rfl, HST.out⟩
    case round =>
      obtain ⟨k, hk, rfl, HS⟩ := hrel
      by_cases hlt : k < L.length
      · obtain ⟨x, hx⟩ : ∃ x, L[k]? = some x := ⟨_, List.getElem?_eq_getElem hlt⟩
        obtain ⟨bd, m, fp, H, Ah, ch, rfl, rfl, hD, hfp, hB, hown, hna, hRF, hroom, hll, hTr, hHl⟩ := HS.out
        have hxs := HFEW.out.2 x (List.mem_of_getElem? hx)
        obtain ⟨g, off, rfl, hC⟩ := HL.out.at_ (Bel.refl w) hx
        obtain ⟨Ab, cb, z0, z1, z2, z3, z4, xc, xr⟩ := hC
        have HCS : Hid (∀ V, Bel w V → (fun V : World => V.cell? ⟨g, off + k * 5, none⟩ = some (.int .i64 x.what) ∧ V.cell? ⟨g, off + k * 5 + 1, none⟩ = some (.int .i64 x.file) ∧ V.cell? ⟨g, off + k * 5 + 2, none⟩ = some (.int .i64 x.n) ∧ V.cell? ⟨g, off + k * 5 + 3, none⟩ = some (.int .i64 x.torn) ∧ V.cell? ⟨g, off + k * 5 + 4, none⟩ = some (.slice Ab x.s.length cb)) V) := fun V hb => ⟨hb.c z0, hb.c z1, hb.c z2, hb.c z3, hb.c z4⟩
        have x0 := hB.c z0
        clear z0 z1 z2 z3 z4
        have hkI : (k : Int) < L.length := by omega
        by_cases hw5 : x.what = 5
        · have hb5 : (x.what == 5) = true := by simp [hw5]
          have HN : Hid (DSt w wr (.pointer (some ⟨bd, 0, none⟩)) (.slice Ah H.length ch) (k + 1) room file) := ⟨bd, m, fp, H, Ah, ch, rfl, rfl, hD, hfp, hB, hown, hna, hRF, hroom, by omega, hTr, by omega⟩
          clear hw5 hD hfp hB hown hna hRF hroom hll hTr hHl HS xr xc hx
          go_wp2
          go_roundw
          case rel => exact ⟨k + 1, by omega, by go_num, HN.out⟩
          case measure => simp [intOf]; omega
        · have hb5 : (x.what == 5) = false := beq_eq_false_iff_ne.2 hw5
          have HD := Lib.hid hD
          have HFP := Lib.hid hfp
          have HB := Lib.hid hB
          have HOWN := Lib.hid hown
          have HNA := Lib.hid hna
          have HRF := Lib.hid hRF
          have HROOM := Lib.hid hroom
          have HLL := Lib.hid hll
          have HTR := Lib.hid hTr
          have HHL := Lib.hid hHl
          have HXS := Lib.hid hxs
          have HXR := Lib.hid xr
          have HXC := Lib.hid xc
          have HW5 := Lib.hid hw5
          have HX := Lib.hid hx
          clear hw5 hD hfp hB hown hna hRF hroom hll hTr hHl HS xr xc hx hxs
          go_wp2_with (go_at_call 11; refine (num_any _ _).mono ?_; rintro e w' ⟨rfl, rfl⟩)
          have hbd : Bel wr wr.drew := (Bel.refl wr).drew
          have HBD := Lib.hid (HB.out.then_ hbd)
          have hS0 : (fun V : World => V.cell? ⟨g, off + k * 5, none⟩ = some (.int .i64 x.what) ∧ V.cell? ⟨g, off + k * 5 + 1, none⟩ = some (.int .i64 x.file) ∧ V.cell? ⟨g, off + k * 5 + 2, none⟩ = some (.int .i64 x.n) ∧ V.cell? ⟨g, off + k * 5 + 3, none⟩ = some (.int .i64 x.torn) ∧ V.cell? ⟨g, off + k * 5 + 4, none⟩ = some (.slice Ab x.s.length cb)) wr.drew := HCS.out _ (HB.out.then_ hbd)
          have HACT : Hid (∀ (w3 : World) (cs : Array Value), Bel wr.drew w3 → RDis w3 cs (DM.new 1) → Calls Tryd.prog 12 #[.pointer (some ⟨bd, 0, none⟩), .agg cs, .agg #[.int .i64 x.what, .int .i64 x.file, .int .i64 x.n, .int .i64 x.torn, .slice Ab x.s.length cb]] w3 (GivesAct (m.act x.what x.file x.n x.s) fp w3)) := fun w3 cs hb3 hr3 =>
            act_any ((HD.out.bel hbd).bel hb3) HRF.out.fit (HG.out.bel (HBD.out.then_ hb3)) hr3 (RFit.new 1 (by decide) (by decide)) (by simp [DM.new]) x.what x.file x.n x.torn Ab cb x.s HXC.out HXS.out (HXR.out.belHeap (HBD.out.then_ hb3)) HW5.out
          clear hbd
          go_region_held3 (fun V : World => V.cell? ⟨g, off + k * 5, none⟩ = some (.int .i64 x.what) ∧ V.cell? ⟨g, off + k * 5 + 1, none⟩ = some (.int .i64 x.file) ∧ V.cell? ⟨g, off + k * 5 + 2, none⟩ = some (.int .i64 x.n) ∧ V.cell? ⟨g, off + k * 5 + 3, none⟩ = some (.int .i64 x.torn) ∧ V.cell? ⟨g, off + k * 5 + 4, none⟩ = some (.slice Ab x.s.length cb))
            (first | assumption | exact hS0 | exact HCS.out _ (HBD.out.then_ (by assumption)) | exact HCS.out _ ((HBD.out.then_ hb3).trans (hO4.below (HBD.out.then_ hb3).size HFP.out)))
            ((first | (go_at_call 13; refine (rNew_any 1 _).mono ?_; rintro e w3 ⟨cs, rfl, hr3, hb3⟩) | (go_at_call 12; refine (HACT.out _ _ hb3 hr3).mono ?_; rintro e w4 ⟨bd4, cs4, b4, fp4, rfl, hD4, hO4⟩)))
          have HB3 : Hid (Bel wr w3) := ((Bel.refl wr).drew).then_ hb3
          clear hr3 hb3 hS0
          obtain ⟨hRF4, hll4, hroom4, hTr4⟩ := HTR.out.act HRF.out (by have := HLL.out; omega) x.what x.file x.n x.s
          have hB34 := HB.out.then_ HB3.out
          have hB4 : Bel w w4 := hB34.trans (hO4.below hB34.size HFP.out)
          have hown3 := ownsRow_bel HOWN.out HB3.out
          have HOWN4 : Hid (w4.ownsRow w.heap.size 9 1 (.slice Ah H.length ch) H.length (H.map sv)) := ownsRow_kept hown3 (fun b hb hl => hO4.block b hl (HNA.out b hb))
          have HNA4 : Hid (∀ g, (Value.slice Ah H.length ch).ownBlock = some g → ¬ fp4 g) := fun g hg hf => (hO4.sub g hf).elim (HNA.out g hg) (fun h => by have := (hown3.lt g hg).2; omega)
          have HFP4 : Hid (∀ b, fp4 b → w.heap.size ≤ b) := fun b hb => (hO4.sub b hb).elim (HFP.out b) (fun h => Nat.le_trans hB34.size h)
          have y0 := (HCS.out _ hB4).1
          have hrdd := dread_any hD4 hRF4.fit file hf0 (by omega)
          unfold strV at hrdd
          have HRDD := Lib.hid hrdd
          clear hrdd
          have HD4 := Lib.hid hD4
          have HB4 := Lib.hid hB4
          have HRF4 := Lib.hid hRF4
          have HLL4 : Hid ((m.act x.what x.file x.n x.s).loose.length ≤ k + 1) := by show _ ≤ _; have := HLL.out; omega
          have HROOM4 : Hid ((m.act x.what x.file x.n x.s).room = room) := hroom4.trans HROOM.out
          have HTR4 := Lib.hid hTr4
          obtain ⟨i0, hi0, hz0, hz1, hz2⟩ := info_parts infoStr
          have hone1 : (0 : Nat) < 1 := by omega
          have hHI : H.length ≤ 21 := by have := HHL.out; have := HFEW.out.1; omega
          clear hD4 hO4 hRF4 hll4 hroom4 hTr4 hB34 hB4 hown3 HACT x0
          generalize m.act x.what x.file x.n x.s = m4 at *
          generalize hSS : m4.files file = S at *
          clear hSS
          by_cases hw4 : x.what = 4
          · have hb44 : (x.what == 4) = true := by simp [hw4]
            rw [if_pos hw4] at HTR4
            have h63 : 0 + 1 ≤ maxLen := by decide
            have hby : (0 + 1) * 16 ≤ 140737488355328 := by decide
            clear hw4
            have hon : ∀ u ∈ [Value.string ⟨S.toArray⟩], u.oneCell' = true := sv_one [S]
            go_wp2_with (first
                         | (go_at_call 11; refine (num_any _ _).mono ?_; rintro e w' ⟨rfl, rfl⟩)
                         | (go_at_call 14; refine HRDD.out.mono ?_; rintro e w5 ⟨rfl, hb5⟩
                            have HB5 := Lib.hid hb5
                            have HOA : Hid (w5.ownsRow w.heap.size 9 1 (.slice none 0 0) 0 []) := World.ownsRow_nil _ _ _ _
                            have hal : Bel w5 (w5.alloc (.cells #[.string ⟨S.toArray⟩] 9)) := (Bel.refl w5).alloc _
                            have HOB := Lib.hid (ownsRow_bel HOA.out hal)
                            have HXA := Lib.hid (reads_one w5 9 ((.string ⟨S.toArray⟩)))
                            have HSA : Hid (w.heap.size ≤ (w5.alloc (.cells #[.string ⟨S.toArray⟩] 9)).heap.size) := ((HB4.out.then_ hb5).then_ hal).size
                            clear hb5 hal)
                         | (at_builtin; refine wpList_append_any _ rfl _ _ _ rfl w.heap.size 9 i0 _ 1 16 Tryd.underlying29 hi0 hz0 hz1 hz2 rfl hone1 _ 0 [] rfl HOB.out _ (some ⟨w5.heap.size, 0, none⟩) 1 1 [.string ⟨S.toArray⟩] rfl HXA.out hon h63 hby HSA.out ?_
                            intro v9 w9 hown9 hg9 hat9
                            obtain ⟨A9, c9, rfl⟩ := own_slice hown9
                            have HN : Hid (DSt w w9 (.pointer (some ⟨bd4, 0, none⟩)) (.slice A9 (0 + 1) c9) (k + 1) room file) := dst_next (S := S) (H0 := []) (HD4.out.bel HB5.out) HFP4.out (HB4.out.then_ HB5.out) HOA.out (fun g hg => by cases hg) rfl hown9 hg9 hat9 HRF4.out HROOM4.out HLL4.out HTR4.out (by have := HHL.out; omega)
                            clear hown9 hg9 hat9))
            go_roundw
            case rel => exact ⟨k + 1, by omega, by go_num, HN.out⟩
            case measure => simp [intOf]; omega
          · have hb44 : (x.what == 4) = false := beq_eq_false_iff_ne.2 hw4
            rw [if_neg hw4] at HTR4
            have h63 : H.length + 1 ≤ maxLen := by unfold maxLen; omega
            have hby : (H.length + 1) * 16 ≤ 140737488355328 := by omega
            clear hw4
            have hon : ∀ u ∈ [Value.string ⟨S.toArray⟩], u.oneCell' = true := sv_one [S]
            go_wp2_with (first
                         | (go_at_call 11; refine (num_any _ _).mono ?_; rintro e w' ⟨rfl, rfl⟩)
                         | (go_at_call 14; refine HRDD.out.mono ?_; rintro e w5 ⟨rfl, hb5⟩
                            have HB5 := Lib.hid hb5
                            have HOA : Hid (w5.ownsRow w.heap.size 9 1 (.slice Ah H.length ch) H.length (H.map sv)) := ownsRow_bel HOWN4.out HB5.out
                            have hal : Bel w5 (w5.alloc (.cells #[.string ⟨S.toArray⟩] 9)) := (Bel.refl w5).alloc _
                            have HOB := Lib.hid (ownsRow_bel HOA.out hal)
                            have HXA := Lib.hid (reads_one w5 9 ((.string ⟨S.toArray⟩)))
                            have HSA : Hid (w.heap.size ≤ (w5.alloc (.cells #[.string ⟨S.toArray⟩] 9)).heap.size) := ((HB4.out.then_ hb5).then_ hal).size
                            clear hb5 hal)
                         | (at_builtin; refine wpList_append_any _ rfl _ _ _ rfl w.heap.size 9 i0 _ 1 16 Tryd.underlying29 hi0 hz0 hz1 hz2 rfl hone1 _ H.length (H.map sv) rfl HOB.out _ (some ⟨w5.heap.size, 0, none⟩) 1 1 [.string ⟨S.toArray⟩] rfl HXA.out hon h63 hby HSA.out ?_
                            intro v9 w9 hown9 hg9 hat9
                            obtain ⟨A9, c9, rfl⟩ := own_slice hown9
                            have HN : Hid (DSt w w9 (.pointer (some ⟨bd4, 0, none⟩)) (.slice A9 (H.length + 1) c9) (k + 1) room file) := dst_next (S := S) (H0 := H) (HD4.out.bel HB5.out) HFP4.out (HB4.out.then_ HB5.out) HOA.out HNA4.out rfl hown9 hg9 hat9 HRF4.out HROOM4.out HLL4.out HTR4.out (by have := HHL.out; omega)
                            clear hown9 hg9 hat9))
            go_roundw
            case rel => exact ⟨k + 1, by omega, by go_num, HN.out⟩
            case measure => simp [intOf]; omega
      · obtain rfl : k = L.length := by omega
        obtain ⟨bd, m, fp, H, Ah, ch, rfl, rfl, hD, hfp, hB, hown, hna, hRF, hroom, hll, hTr, hHl⟩ := HS.out
        have hke := decide_eq_false (show ¬ ((L.length : Int) < L.length) by omega)
        have hlen : ∀ k x, m.loose[k]? = some x → ((crashTo m keep torn k) x.file).length + x.bytes.length ≤ 1000000000 := fun k x hx => by
          have hmem := List.mem_of_getElem? hx
          have h1 := crash_bound hRF keep torn hk0 k x.file (hRF.file x hmem).1 (hRF.file x hmem).2
          have h2 := hRF.bytes x hmem
          omega
        obtain ⟨i0, hi0, hfine⟩ := crash_fine hTr keep torn hk0
        have HCR := Lib.hid (crash_any hD hRF.fit.ne keep torn hk0 ht0 hlen hRF.few)
        have HOWN := Lib.hid hown
        have HNA := Lib.hid hna
        have HFP := Lib.hid hfp
        have HB := Lib.hid hB
        have HFI := Lib.hid hfine
        have HRF2 := Lib.hid (hRF.crash keep torn hk0)
        have hHI : H.length ≤ 21 := by have := HFEW.out.1; omega
        clear hD hfp hB hown hna hRF hroom hll hTr hHl HS hlen hfine
        go_wp2_with (go_at_call 11; refine (num_any _ _).mono ?_; rintro e w' ⟨rfl, rfl⟩)
        refine HCR.out.mono ?_
        rintro e w4 ⟨rfl, fp4, hD4, hO4⟩
        have hB4 : Bel w w4 := HB.out.trans (hO4.below HB.out.size HFP.out)
        have HOWN4 : Hid (w4.ownsRow w.heap.size 9 1 (.slice Ah H.length ch) H.length (H.map sv)) := ownsRow_kept HOWN.out (fun b hb hl => hO4.block b hl (HNA.out b hb))
        have HLO := Lib.hid (loose_any hD4 HRF2.out.fit.ne)
        have hrdd := dread_any hD4 HRF2.out.fit file hf0 (by omega)
        unfold strV at hrdd
        have HRDD := Lib.hid hrdd
        have HB4 := Lib.hid hB4
        have hl0 : (m.crash keep torn).loose.length = 0 := rfl
        rw [hl0] at HLO
        clear hrdd hD4 hO4 hB4 HCR HRF2 hl0
        generalize hnow : (m.crash keep torn).files file = now at *
        clear hnow
        go_wp2_with (first | (go_at_call 11; refine (num_any _ _).mono ?_; rintro e w' ⟨rfl, rfl⟩) | (go_at_call 16; refine HLO.out.mono ?_; rintro e w' ⟨rfl, rfl⟩) | (go_at_call 14; refine HRDD.out.mono ?_; rintro e w5 ⟨rfl, hb5⟩; have HB5 := Lib.hid (HB4.out.then_ hb5); have HOWN5 := Lib.hid (ownsRow_bel HOWN4.out hb5); clear hb5))
        obtain ⟨gh, cap5, hv5, hg51, hg52⟩ := HOWN5.out.form (by omega)
        cases hv5
        have HCE : Hid (∀ (j : Nat) (a : List UInt8), H[j]? = some a → w5.cell? ⟨gh, j, none⟩ = some (.string ⟨a.toArray⟩)) := fun j a ha => by
          have := HOWN5.out.cells (g := gh) rfl j (sv a) (by rw [List.getElem?_map, ha]; rfl)
          rw [add_free, Nat.zero_add] at this
          exact this
        have HI0 := Lib.hid hi0
        have hHI2 : (H.length : Int) ≤ 21 := by omega
        clear hg51 hg52 HOWN5 HOWN4 HOWN HNA hi0
        go_loopw [16] (fun i wr => ∃ k : Nat, k ≤ i0 ∧ i = .int .i64 k ∧ Hid (Bel w5 wr)) (fun i _ => H.length - (intOf i).toNat)
        case atStart => exact ⟨0, Nat.zero_le _, rfl, Bel.refl w5⟩
        case round =>
          obtain ⟨k, hk, rfl, HR⟩ := hrel
          have hkl : k < H.length := Nat.lt_of_le_of_lt hk HI0.out
          have hkI : (k : Int) < H.length := by omega
          obtain ⟨a, ha⟩ : ∃ a, H[k]? = some a := ⟨_, List.getElem?_eq_getElem hkl⟩
          have ca := HR.out.c (HCE.out k a ha)
          obtain ⟨kk, hkk, hkl2⟩ : ∃ kk : Nat, kk = min (k + 1) (H.length - 1) ∧ kk < H.length := ⟨_, rfl, by omega⟩
          obtain ⟨b, hb⟩ : ∃ b, H[kk]? = some b := ⟨_, List.getElem?_eq_getElem hkl2⟩
          have cb := HR.out.c (HCE.out kk b hb)
          have HFA : Hid (k = i0 → now = a ∨ now.length ≤ b.length ∧ a.length ≤ now.length ∧ b.take now.length = now ∧ now.take a.length = a) := fun e => by
            obtain ⟨a', b', h1, h2, h3⟩ := HFI.out
            rw [← e] at h1 h2
            rw [ha] at h1
            rw [← hkk, hb] at h2
            cases h1
            cases h2
            exact h3
          have hsp : (kk = k + 1 ∧ (k : Int) + 1 ≤ (H.length : Int) - 1) ∨ (kk = H.length - 1 ∧ (H.length : Int) - 1 < (k : Int) + 1) := by omega
          have HKL := Lib.hid hkl
          clear ha hb hkk hkl2 hkl
          rcases hsp with ⟨rfl, hlI⟩ | ⟨rfl, hlI⟩
          all_goals
            have tb := take_bytes b now.length
            have ta := take_bytes now a.length
            have sz1 : (⟨now.toArray⟩ : ByteArray).size = now.length := rfl
            have sz2 : (⟨a.toArray⟩ : ByteArray).size = a.length := rfl
            have sz3 : (⟨b.toArray⟩ : ByteArray).size = b.length := rfl
            generalize hBB : b.take now.length = B at *
            generalize hAA : now.take a.length = A5 at *
            clear hBB hAA
            by_cases e1 : now = a
            · subst e1
              clear HFA tb ta
              go_wp2_with fail
              go_quiet (fail)
              go_wp2_with fail
              refine (HW _ ((HB5.out.then_ HR.out).drewN nq)).out.mono ?_
              rintro e w9 ⟨rfl, hb9⟩
              have HB9 := Lib.hid (((HB5.out.then_ HR.out).drewN nq).then_ hb9)
              clear hb9
              go_wp2
              go_ret
              exact ⟨rfl, HB9.out⟩
            · have hnow : (now == a) = false := beq_eq_false_iff_ne.2 e1
              by_cases c2 : (now.length : Int) ≤ b.length
              · by_cases c3 : (a.length : Int) ≤ now.length
                · by_cases c4 : B = now
                  · by_cases c5 : A5 = a
                    · clear HFA
                      go_wp2_with fail
                      go_quiet (fail)
                      go_wp2_with fail
                      refine (HW _ ((HB5.out.then_ HR.out).drewN nq)).out.mono ?_
                      rintro e w9 ⟨rfl, hb9⟩
                      have HB9 := Lib.hid (((HB5.out.then_ HR.out).drewN nq).then_ hb9)
                      clear hb9
                      go_wp2
                      go_ret
                      exact ⟨rfl, HB9.out⟩
                    · have hne : k ≠ i0 := fun e => by
                        rcases HFA.out e with h | ⟨h1, h2, h3, h4⟩
                        · exact e1 h
                        · exact c5 h4
                      have hbq : (A5 == a) = false := beq_eq_false_iff_ne.2 c5
                      clear HFA
                      go_wp2_with fail
                      go_quiet (fail)
                      go_wp2
                      go_roundw
                      case rel => exact ⟨k + 1, by omega, by go_num, HR.out.drewN nq⟩
                      case measure => simp [intOf]; omega
                  · have hne : k ≠ i0 := fun e => by
                      rcases HFA.out e with h | ⟨h1, h2, h3, h4⟩
                      · exact e1 h
                      · exact c4 h3
                    have hbq : (B == now) = false := beq_eq_false_iff_ne.2 c4
                    clear HFA
                    go_wp2_with fail
                    go_quiet (fail)
                    go_wp2
                    go_roundw
                    case rel => exact ⟨k + 1, by omega, by go_num, HR.out.drewN nq⟩
                    case measure => simp [intOf]; omega
                · have hne : k ≠ i0 := fun e => by
                    rcases HFA.out e with h | ⟨h1, h2, h3, h4⟩
                    · exact e1 h
                    · omega
                  have c3n : ¬ a.length ≤ now.length := by omega
                  have c3d := decide_eq_false c3
                  have c3e := decide_eq_false c3n
                  clear HFA
                  go_wp2_with fail
                  go_quiet (fail)
                  go_wp2
                  go_roundw
                  case rel => exact ⟨k + 1, by omega, by go_num, HR.out.drewN nq⟩
                  case measure => simp [intOf]; omega
              · have hne : k ≠ i0 := fun e => by
                  rcases HFA.out e with h | ⟨h1, h2, h3, h4⟩
                  · exact e1 h
                  · omega
                have c2n : ¬ now.length ≤ b.length := by omega
                have c2d := decide_eq_false c2
                have c2e := decide_eq_false c2n
                clear HFA
                go_wp2_with fail
                go_quiet (fail)
                go_wp2
                go_roundw
                case rel => exact ⟨k + 1, by omega, by go_num, HR.out.drewN nq⟩
                case measure => simp [intOf]; omega
  · obtain ⟨bb, hbb⟩ : ∃ b, b = decide (L.length ≤ 20 ∧ ∀ x ∈ L, x.s.length ≤ 60) := ⟨_, rfl⟩
    rw [← hbb] at HF
    have hcases : room < 1 ∨ (1 ≤ room ∧ 2000 < room) ∨ (1 ≤ room ∧ room ≤ 2000 ∧ bb = false) ∨ (1 ≤ room ∧ room ≤ 2000 ∧ bb = true ∧ file < 0) ∨ (1 ≤ room ∧ room ≤ 2000 ∧ bb = true ∧ 0 ≤ file ∧ 63 < file) ∨ (1 ≤ room ∧ room ≤ 2000 ∧ bb = true ∧ 0 ≤ file ∧ file ≤ 63 ∧ keep < 0) ∨ (1 ≤ room ∧ room ≤ 2000 ∧ bb = true ∧ 0 ≤ file ∧ file ≤ 63 ∧ 0 ≤ keep ∧ torn < 0) := by
      have hb : ¬ (1 ≤ room ∧ room ≤ 2000 ∧ bb = true ∧ 0 ≤ file ∧ file ≤ 63 ∧ 0 ≤ keep ∧ 0 ≤ torn) := fun h => hgood ⟨h.1, h.2.1, of_decide_eq_true (hbb ▸ h.2.2.1), h.2.2.2⟩
      clear hgood hbb HF
      cases bb
      · simp at hb ⊢
        omega
      · simp at hb ⊢
        omega
    clear hgood hbb
    rcases hcases with q | ⟨q1, q2⟩ | ⟨q1, q2, rfl⟩ | ⟨q1, q2, rfl, q3⟩ | ⟨q1, q2, rfl, q3, q4⟩ | ⟨q1, q2, rfl, q3, q4, q5⟩ | ⟨q1, q2, rfl, q3, q4, q5, q6⟩
    all_goals
      go_enter Tryd.func3, Tryd.ntmps3
      go_wp2_with (go_at_call 8; refine HF.out.mono ?_; rintro e w' ⟨rfl, rfl⟩)
      refine (HW _ (Bel.refl _)).out.mono ?_
      rintro e w2 ⟨rfl, hb2⟩
      have HB2 := Lib.hid hb2
      clear hb2
      go_wp2
      go_ret
      exact ⟨rfl, HB2.out⟩
end Go.Proofs.YthmigmiojifnkaaDoor
