/-
  The disk: New, Append, Read.
-/
import Derived.Test.YtiajggmnfaidjaaGreatDoorDe
set_option linter.unusedVariables false
set_option linter.unusedSimpArgs false
set_option linter.unusedVariables false
set_option linter.unusedSimpArgs false
namespace Go.Proofs.YtiajggmnfaidjaaGreatDoor
open Go.RowKit

def DM.new (room : Int) : DM := { room := room, files := fun _ => [], synced := fun _ => [], loose := [] }
/-- A new disk. -/
def GivesDisk (m : DM) (w : World) (e : Ending) (w' : World) : Prop := ∃ bd fp, e = .returned (.tuple #[.pointer (some ⟨bd, 0, none⟩), .int .i64 0]) ∧ DiskIs w' bd m fp ∧ (∀ b, fp b → w.heap.size ≤ b) ∧ Bel w w'
set_option maxRecDepth 100000 in
theorem new_out (room : Int) (h : room < 1 ∨ 16777216 < room) (w : World) : Calls Tryz.prog 6 #[.int .i64 room] w fun e w' => e = .returned (.tuple #[.pointer none, .int .i64 2]) ∧ w = w' := by
  rcases h with h | h
  · go_enter Tryz.func6, Tryz.ntmps6
    go_wp2
    go_ret2
    exact ⟨rfl, rfl⟩
  · have h1 : 1 ≤ room := by omega
    go_enter Tryz.func6, Tryz.ntmps6
    go_wp2
    go_ret2
    exact ⟨rfl, rfl⟩
set_option maxRecDepth 100000 in
theorem new_any (room : Int) (h1 : 1 ≤ room) (h2 : room ≤ 16777216) (w : World) : Calls Tryz.prog 6 #[.int .i64 room] w (GivesDisk (DM.new room) w) := by
  have hmm := @run_makeMap Tryz.prog
  go_enter Tryz.func6, Tryz.ntmps6
  go_wp2
  go_ret2
  have hb1 : Bel w (((w.alloc (.map #[] 0)).alloc (.map #[] 0)).alloc (.cells #[.map (some w.heap.size), .int .i64 room, .map (some (w.heap.size + 1)), .slice none 0 0] 61)) := (((Bel.refl w).alloc _).alloc _).alloc _
  refine ⟨w.heap.size + 1 + 1, fun b => w.heap.size ≤ b, rfl, ⟨w.heap.size, w.heap.size + 1, .slice none 0 0, ?_, by omega, by omega, ⟨Nat.le_refl _, _, MapAt.bel (MapAt.bel (MapAt.made w) ((Bel.refl _).alloc _)) ((Bel.refl _).alloc _), fun k v h => (by cases h), fun _ _ => rfl⟩,
    ⟨by omega, fun _ => none, ?_, fun k v h => (by cases h), fun _ _ => rfl⟩, [], World.ownsRow_nil _ _ _ _, by simp [Value.ownBlock], fun i x hi => by simp [DM.new] at hi⟩, fun _ h => h, hb1⟩
  · have := Blk.new ((w.alloc (.map #[] 0)).alloc (.map #[] 0)) 61 #[.map (some w.heap.size), .int .i64 room, .map (some (w.heap.size + 1)), .slice none 0 0]
    simpa [Blk, DM.new] using this
  · have := MapAt.bel (MapAt.made (w.alloc (.map #[] 0))) ((Bel.refl _).alloc (.cells #[.map (some w.heap.size), .int .i64 room, .map (some (w.heap.size + 1)), .slice none 0 0] 61))
    simpa using this

/-- What may be asked of a disk. -/
structure Fit (m : DM) : Prop where
  lo : 0 < m.room
  hi : m.room ≤ 16777216
  files : tot m.files ≤ m.room
  few : m.loose.length ≤ 1000000
theorem Fit.ne {m : DM} (h : Fit m) : m.room ≠ 0 := by have := h.lo; omega
def DM.append (m : DM) (file : Int) (s : List UInt8) : DM × Int :=
  if file < 0 ∨ 64 ≤ file then (m, 4) else if m.room - tot m.files < s.length then (m, 190) else ({ m with files := doneF m.files ⟨file, s, 0, false⟩, loose := m.loose ++ [⟨file, s, 0, false⟩] }, 0)
theorem sumTo_ge {h : Int → Int} : ∀ (n : Nat) (k : Nat), k < n → (∀ k : Nat, k < n → 0 ≤ h k) → h k ≤ sumTo h n
  | 0, k, hk, _ => by omega
  | n + 1, k, hk, e => by
    rw [sumTo]
    by_cases hkn : k = n
    · subst hkn
      have := sumTo_nonneg k (fun j hj => e j (by omega))
      omega
    · have := sumTo_ge n k (by omega) (fun j hj => e j (by omega))
      have := e n (by omega)
      omega
theorem len_le_tot (f : Int → List UInt8) (k : Int) (h0 : 0 ≤ k) (h1 : k < 64) : ((f k).length : Int) ≤ tot f := by
  obtain ⟨j, rfl⟩ := Int.eq_ofNat_of_zero_le h0
  exact sumTo_ge 64 j (by omega) (fun _ _ => by omega)
theorem GivesOp.same {bd : Nat} {m : DM} {r : Int} {fp : Nat → Prop} {w w' : World} (h : DiskIs w bd m fp) (hb : Bel w w') : GivesOp bd m r fp w (.returned (.int .i64 r)) w' := ⟨rfl, fp, h.bel hb, Opp.of_bel hb⟩
set_option maxRecDepth 100000 in
set_option maxHeartbeats 400000 in
theorem append_any {w : World} {bd : Nat} {m : DM} {fp : Nat → Prop} (h : DiskIs w bd m fp) (hfit : Fit m) (hg : ErrType w) (file : Int) (A : Option Addr) (n cap : Nat) (s : List UInt8) (hn : n = s.length) (hc : A = none → n = 0 ∧ cap = 0) (hs : s.length ≤ 1000000000) (hr : Reads w w.heap.size 1 A s.length (s.map bv)) :
    Calls Tryz.prog 58 #[.pointer (some ⟨bd, 0, none⟩), .int .i64 file, .slice A n cap] w (GivesOp bd (m.append file s).1 (m.append file s).2 fp w) := by
  subst hn
  by_cases hf : file < 0 ∨ 64 ≤ file
  · have HA := Lib.hid (asked_out h hfit.ne file hf)
    have HM : Hid (m.append file s = (m, 4)) := if_pos hf
    have HD := Lib.hid h
    have HG := Lib.hid hg
    clear h hf hfit hg hr hc hs
    go_enter Tryz.func58, Tryz.ntmps58
    go_wp2_with fail
    refine HA.out.mono ?_
    rintro e w1 ⟨p, rfl, hp, hb⟩
    have HP := Lib.hid (dnumber_fault p 4 w1 (HG.out.bel hb) hp)
    have HB := Lib.hid hb
    clear hb hp
    go_wp2_with fail
    refine HP.out.mono ?_
    rintro e w2 ⟨rfl, hb2⟩
    have HB2 := Lib.hid hb2
    clear hb2
    go_wp2
    go_ret
    rw [HM.out]
    exact GivesOp.same HD.out (HB.out.then_ HB2.out)
  · have hf0 : 0 ≤ file := by omega
    have hf1 : file < 64 := by omega
    have HA := Lib.hid (asked_ok h hfit.ne file hf0 hf1)
    have HLF := Lib.hid (left_any h hfit.lo hfit.hi hfit.files)
    have HD := Lib.hid h
    have HG := Lib.hid hg
    have HFIT := Lib.hid hfit
    have hlt := len_le_tot m.files file hf0 hf1
    have h0 := tot_nonneg m.files
    have hfi := hfit.files
    have hlo := hfit.lo
    have hhi := hfit.hi
    have HLT := Lib.hid hlt
    have HF0 := Lib.hid hf0
    have HF1 := Lib.hid hf1
    have HR := Lib.hid hr
    by_cases hfull : m.room - tot m.files < s.length
    · have HM : Hid (m.append file s = (m, 190)) := by show _ = _; unfold DM.append; rw [if_neg hf, if_pos hfull]
      clear h hf hfit hg hr hc hlt hf0 hf1
      go_enter Tryz.func58, Tryz.ntmps58
      go_wp2_with fail
      refine HA.out.mono ?_
      rintro e w1 ⟨rfl, rfl⟩
      go_wp2_with fail
      refine HLF.out.mono ?_
      rintro e w1 ⟨rfl, hb⟩
      have HB := Lib.hid hb
      have HP : Hid (∀ f, Calls Tryz.prog 45 #[.iface 100 (.pointer (some ⟨w1.heap.size, 0, none⟩))] (w1.alloc (.cells #[f, .iface 26 (.int .i64 190)] 102)) fun e w' => e = .returned (.int .i64 190) ∧ Bel (w1.alloc (.cells #[f, .iface 26 (.int .i64 190)] 102)) w') :=
        fun f => dnumber_fault _ _ _ ((HG.out.bel hb).bel ((Bel.refl _).alloc _)) ⟨f, World.alloc_heap_new _ _⟩
      clear hb
      go_wp2_with fail
      refine (HP.out _).mono ?_
      rintro e w2 ⟨rfl, hb2⟩
      have HB2 : Hid (Bel w1 w2) := ((Bel.refl w1).alloc _).then_ hb2
      clear hb2
      go_wp2
      go_ret
      rw [HM.out]
      exact GivesOp.same HD.out (HB.out.then_ HB2.out)
    · have hfl2 : (s.length : Int) ≤ m.room - tot m.files := by omega
      have HM : Hid (m.append file s = ({ m with files := doneF m.files ⟨file, s, 0, false⟩, loose := m.loose ++ [⟨file, s, 0, false⟩] }, 0)) := by show _ = _; unfold DM.append; rw [if_neg hf, if_neg hfull]
      have HC := Lib.hid hc
      have HS := Lib.hid hs
      clear h hf hfit hg hr hc hlt hf0 hf1 hs
      go_enter Tryz.func58, Tryz.ntmps58
      go_wp2_with fail
      refine HA.out.mono ?_
      rintro e w1 ⟨rfl, rfl⟩
      go_wp2_with fail
      refine HLF.out.mono ?_
      rintro e w1 ⟨rfl, hb⟩
      have HB := Lib.hid hb
      have HBE := Lib.hid (behind_any file HF0.out HF1.out A s.length cap s rfl HC.out (by have := HS.out; unfold manyB; omega) w1 ((HR.out.below hb).more hb.size))
      clear hb
      go_wp2_with fail
      refine HBE.out.mono ?_
      rintro e w2 ⟨c0, c1, c2, c3, c4, rfl, hth, hb2⟩
      have hsz := HB.out.size
      have hD2 := ((HD.out.bel HB.out).bel hb2).mono (fp' := fun b => fp b ∨ w1.heap.size ≤ b) (fun b h => .inl h)
      have HDO := Lib.hid (do_any hD2 (hth.kept (fun _ _ _ => rfl) (fun b h => .inr h)) (by have := HS.out; have := HLT.out; unfold manyB; show (m.files file).length + s.length ≤ _; omega) HFIT.out.few)
      have HB2 := Lib.hid hb2
      clear hb2 hth hD2
      go_wp2_with fail
      refine HDO.out.mono ?_
      rintro e w3 ⟨rfl, hD3, ho3⟩
      have HD3 := Lib.hid hD3
      have HO3 := Lib.hid ho3
      clear hD3 ho3
      go_wp2
      go_ret
      rw [HM.out]
      refine ⟨rfl, _, HD3.out, Opp.trans (Opp.trans (Opp.of_bel HB.out) ⟨HB2.out.os, HB2.out.tape, HB2.out.output, HB2.out.size, fun k hk hn => HB2.out.block k hk, fun b h => h⟩) HO3.out⟩
/-- Bytes that are read. -/
def GivesRead (r : Option (List UInt8)) (k : Int) (w : World) (e : Ending) (w' : World) : Prop :=
  match r with
  | some s => ∃ v, e = .returned (.tuple #[v, .int .i64 0]) ∧ BytesAt w' v s (fun b => w.heap.size ≤ b) ∧ Bel w w'
  | none => e = .returned (.tuple #[.slice none 0 0, .int .i64 k]) ∧ Bel w w'
theorem read_out {w : World} {bd : Nat} {m : DM} {fp : Nat → Prop} (h : DiskIs w bd m fp) (hfit : Fit m) (hg : ErrType w) (file : Int) (hf : file < 0 ∨ 64 ≤ file) :
    Calls Tryz.prog 20 #[.pointer (some ⟨bd, 0, none⟩), .int .i64 file] w (GivesRead none 4 w) := by
  have HA := Lib.hid (asked_out h hfit.ne file hf)
  have HG := Lib.hid hg
  clear h hf hfit hg
  go_enter Tryz.func20, Tryz.ntmps20
  go_wp2_with fail
  refine HA.out.mono ?_
  rintro e w1 ⟨p, rfl, hp, hb⟩
  have HP := Lib.hid (dnumber_fault p 4 w1 (HG.out.bel hb) hp)
  have HB := Lib.hid hb
  clear hb hp
  go_wp2_with fail
  refine HP.out.mono ?_
  rintro e w2 ⟨rfl, hb2⟩
  have HB2 := Lib.hid hb2
  clear hb2
  go_wp2
  go_ret2
  exact ⟨rfl, HB.out.then_ HB2.out⟩
theorem read_any {w : World} {bd : Nat} {m : DM} {fp : Nat → Prop} (h : DiskIs w bd m fp) (hfit : Fit m) (file : Int) (h0 : 0 ≤ file) (h64 : file < 64) :
    Calls Tryz.prog 20 #[.pointer (some ⟨bd, 0, none⟩), .int .i64 file] w (GivesRead (some (m.files file)) 0 w) := by
  have HA := Lib.hid (asked_ok h hfit.ne file h0 h64)
  obtain ⟨mf, ms, L, hb, hfb, hne, hF, hS, hL⟩ := h
  have c0 : w.cell? ⟨bd, 0, none⟩ = some (.map (some mf)) := by simp [World.cell?, hb]
  obtain ⟨v, hv, hlk⟩ := hF.get file
  have hl := len_le_tot m.files file h0 h64
  have hfi := hfit.files
  have hhi := hfit.hi
  have HCL := Lib.hid (cloneB_at v (m.files file) (by unfold manyB; omega) w hv)
  clear hb hfb hne hF hS hL hv hl hfi hhi hfit
  go_enter Tryz.func20, Tryz.ntmps20
  go_wp2_with fail
  refine HA.out.mono ?_
  rintro e w1 ⟨rfl, rfl⟩
  go_wp2_with fail
  refine HCL.out.mono ?_
  rintro e w1 ⟨v', rfl, hv', hb'⟩
  have HV := Lib.hid hv'
  have HB := Lib.hid hb'
  clear hv' hb'
  go_wp2
  go_ret2
  exact ⟨_, rfl, HV.out, HB.out⟩
end Go.Proofs.YtiajggmnfaidjaaGreatDoor
