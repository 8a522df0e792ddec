/-
  The disk's Left, Loose.
-/
import Derived.Test.YthmigmiojifnkaaDoorDt
set_option linter.unusedVariables false
set_option linter.unusedSimpArgs false
set_option linter.unusedVariables false
set_option linter.unusedSimpArgs false
namespace Go.Proofs.YthmigmiojifnkaaDoor
open Go.RowKit

theorem keepS {w w1 w2 : World} {bd mf : Nat} {room : Int} {f : Int → List UInt8} {fp : Nat → Prop} (hb : Bel w1 w2) (h : w1.cell? ⟨bd, 0, none⟩ = some (.map (some mf)) ∧ w1.cell? ⟨bd, 1, none⟩ = some (.int .i64 room) ∧ Hid (FilesAt w1 mf f fp ∧ Bel w w1)) :
    w2.cell? ⟨bd, 0, none⟩ = some (.map (some mf)) ∧ w2.cell? ⟨bd, 1, none⟩ = some (.int .i64 room) ∧ Hid (FilesAt w2 mf f fp ∧ Bel w w2) :=
  ⟨hb.c h.1, hb.c h.2.1, h.2.2.out.1.kept (fun b _ hl => hb.block b hl) (fun _ h => h), h.2.2.out.2.then_ hb⟩
theorem totalS {w w1 : World} {mf : Nat} {f : Int → List UInt8} {fp : Nat → Prop} (bd : Nat) (room : Int) (h : w1.cell? ⟨bd, 0, none⟩ = some (.map (some mf)) ∧ w1.cell? ⟨bd, 1, none⟩ = some (.int .i64 room) ∧ Hid (FilesAt w1 mf f fp ∧ Bel w w1)) (ht : tot f ≤ 1000000000) : Calls Tryd.prog 65 #[.map (some mf)] w1 fun e w' => e = .returned (.int .i64 (tot f)) ∧ Bel w1 w' := total_any h.2.2.out.1 ht
set_option maxRecDepth 100000 in
set_option maxHeartbeats 400000 in
theorem left_any {w : World} {bd : Nat} {m : DM} {fp : Nat → Prop} (h : DiskIs w bd m fp) (hr : 0 < m.room) (hr2 : m.room ≤ 16777216) (ht : tot m.files ≤ m.room) : Calls Tryd.prog 32 #[.pointer (some ⟨bd, 0, none⟩)] w fun e w' => e = .returned (.int .i64 (m.room - tot m.files)) ∧ Bel w w' := by
  have HN := Lib.hid (none_disk h (by omega))
  obtain ⟨mf, ms, L, h1, h2, h3, h4, h5, h6⟩ := h
  have c0 : w.cell? ⟨bd, 0, none⟩ = some (.map (some mf)) := by simp [World.cell?, h1]
  have c1 : w.cell? ⟨bd, 1, none⟩ = some (.int .i64 m.room) := by simp [World.cell?, h1]
  have HF : Hid (FilesAt w mf m.files fp ∧ Bel w w) := ⟨h4, Bel.refl w⟩
  have h0 := tot_nonneg m.files
  have hT : tot m.files ≤ 1000000000 := by omega
  have HT := Lib.hid hT
  clear hT
  clear h1 h2 h3 h4 h5 h6
  go_enter Tryd.func32, Tryd.ntmps32
  go_wp2_with (go_at_call 45; refine HN.out.mono ?_; rintro e w' ⟨rfl, rfl⟩)
  go_region_held3 (fun w' => w'.cell? ⟨bd, 0, none⟩ = some (.map (some mf)) ∧ w'.cell? ⟨bd, 1, none⟩ = some (.int .i64 m.room) ∧ Hid (FilesAt w' mf m.files fp ∧ Bel w w'))
    (first | exact ⟨c0, c1, HF⟩ | exact keepS (Bel.drew (Bel.refl _)) ⟨c0, c1, HF⟩ | exact keepS (by assumption) (by assumption) | exact keepS (Bel.drew (Bel.refl _)) (by assumption))
    ((go_at_call 65; refine (totalS bd m.room (by assumption) HT.out).mono ?_; rintro e w2 ⟨rfl, hb⟩))
  go_wp2
  go_ret
  refine ⟨ret_int ?_, (Bel.drew (Bel.refl w)).then_ hb⟩
  exact IntWalk.i64_in _ (by omega)
theorem loose_any {w : World} {bd : Nat} {m : DM} {fp : Nat → Prop} (h : DiskIs w bd m fp) (hr : m.room ≠ 0) : Calls Tryd.prog 16 #[.pointer (some ⟨bd, 0, none⟩)] w fun e w' => e = .returned (.int .i64 m.loose.length) ∧ w = w' := by
  have HN := Lib.hid (none_disk h hr)
  obtain ⟨mf, ms, L, h1, h2, h3, h4, h5, cs, h6, h7, h8⟩ := h
  have c3 : w.cell? ⟨bd, 3, none⟩ = some L := by simp [World.cell?, h1]
  obtain ⟨A, c, rfl⟩ : ∃ A c, L = .slice A m.loose.length c := by
    rcases h6.2 with ⟨e, e2⟩ | ⟨g, cap, cur, hv, _⟩
    · exact ⟨none, 0, by rw [e, e2]⟩
    · exact ⟨_, _, hv⟩
  clear h1 h2 h3 h4 h5 h6 h7 h8
  go_enter Tryd.func16, Tryd.ntmps16
  go_wp2_with (go_at_call 45; refine HN.out.mono ?_; rintro e w' ⟨rfl, rfl⟩)
  go_ret
  exact ⟨rfl, rfl⟩
end Go.Proofs.YthmigmiojifnkaaDoor
