/-
  The document's disk: Append.
-/
import Derived.Test.YtiajggmnfaidjaaGreatDoorRb
import Derived.Test.YtiajggmnfaidjaaGreatDoorLo
import Derived.Laws.Tables
import Derived.Laws.CopyOwn
set_option linter.unusedVariables false
set_option linter.unusedSimpArgs false
set_option linter.unusedVariables false
set_option linter.unusedSimpArgs false
namespace Go.Proofs.YtiajggmnfaidjaaGreatDoor
open Go.RowKit

theorem rth_one (x : Th) : ∀ u ∈ rth x, u.oneCell' = true := fun u hu => by
  simp [rth] at hu
  rcases hu with rfl | rfl | rfl | rfl <;> rfl
theorem rths_one (l : List Th) : ∀ u ∈ rths l, u.oneCell' = true := fun u hu => by
  obtain ⟨x, _, h⟩ := List.mem_flatMap.1 hu
  exact rth_one x u h
theorem rths_snoc (l : List Th) (x : Th) : rths (l ++ [x]) = rths l ++ rth x := by simp [rths]
theorem RThs.reads {w : World} {A : Option Addr} {l : List Th} (h : RThs w A l) : Reads w w.heap.size 4 A l.length (rths l) := ⟨rths_length l, fun hn => by
  obtain ⟨g, off, e, hg, hc⟩ := h hn
  exact ⟨_, e, hg, fun j u hu => by rw [add_free]; exact hc j u hu⟩⟩
theorem RThs.of_own {w : World} {b n c : Nat} {A : Option Addr} {l : List Th} (h : w.ownsRow b 105 4 (.slice A n c) n (rths l)) (hn : n = l.length) : RThs w A l := fun h0 => by
  obtain ⟨g, cap, hv, hg1, hg2⟩ := h.form (by omega)
  cases hv
  exact ⟨g, 0, rfl, hg2, fun j u hu => by have := h.cells (g := g) rfl j u hu; rw [add_free] at this; exact this⟩
theorem row_any {w : World} {b e z n : Nat} {v : Value} {xs : List Value} (h : w.ownsRow b e z v n xs) : ∃ A c, v = .slice A n c := by
  rcases h.2 with ⟨rfl, rfl⟩ | ⟨g, cap, cur, rfl, _⟩
  · exact ⟨none, 0, rfl⟩
  · exact ⟨_, cap, rfl⟩
theorem reads4 (w : World) (T : TypeId) (c0 c1 c2 c3 : Value) : Reads (w.alloc (.cells #[c0, c1, c2, c3] T)) (w.heap.size + 1) 4 (some ⟨w.heap.size, 0, none⟩) 1 [c0, c1, c2, c3] := by
  refine ⟨rfl, fun _ => ⟨_, rfl, by simp, fun j u hu => ?_⟩⟩
  have hb := World.alloc_heap_new w (.cells #[c0, c1, c2, c3] T)
  rw [add_free, Nat.zero_add]
  simp only [World.cell?, hb]
  simpa using hu
theorem infoRT : (Tryz.prog.info? 105).map (fun i => (i.zero, i.size, i.bytes)) = some (some (.agg #[.int .i64 0, .int .i64 0, .bool false, .string ⟨#[]⟩]), 4, 40) := by kernel_rfl
theorem one_set {cs : Array Value} (h : cs.all (·.oneCell') = true) (i : Nat) {v : Value} (hv : v.oneCell' = true) : (cs.setIfInBounds i v).all (·.oneCell') = true := by
  rw [Array.all_eq_true] at h ⊢
  intro j hj
  rw [Array.getElem_setIfInBounds]
  split
  · exact hv
  · exact h j (by simpa using hj)
theorem RCells.put {cs : Array Value} {room : Int} {syn : Nat → List UInt8} {L v : Value} (h : RCells cs room syn L) (hv : ∀ A n c, v = .slice A n c → n ≤ c) : RCells (cs.setIfInBounds 65 v) room syn v := by
  refine ⟨by rw [Array.size_setIfInBounds]; exact h.size, ?_, fun f hf => ?_, ?_, hv⟩
  · rw [Array.getElem?_setIfInBounds_ne (by omega)]; exact h.room
  · rw [Array.getElem?_setIfInBounds_ne (by omega)]; exact h.syn f hf
  · rw [Array.getElem?_setIfInBounds_self_of_lt (by rw [h.size]; omega)]
/-- What a call on the document's disk hands back. -/
def GivesR (m' : DM) (k : Int) (w : World) (e : Ending) (w' : World) : Prop := ∃ cs, e = .returned (.tuple #[.agg cs, .int .i64 k]) ∧ RDis w' cs m' ∧ Bel w w'
theorem results_row2 {fn : Func} {p q : Tmp} (h : fn.results = #[.cell p 36, .tmp q]) (tmps : Array Value) (w : World) (g : Nat) (cs : Array Value) (k : Value) (hp : tmps.getD p undef = .pointer (some ⟨g, 0, none⟩)) (hq : tmps.getD q undef = k)
    (hg : w.heap[g]? = some (.cells cs 36 (0, 0))) (hi : (Tryz.prog.info? 36).map (·.size) = some cs.size) : (results fn tmps).run Tryz.prog w = .ok (.tuple #[.agg cs, k]) w := by
  have hp' : tmps[p]?.getD undef = .pointer (some ⟨g, 0, none⟩) := by simpa using hp
  have hq' : tmps[q]?.getD undef = k := by simpa using hq
  simp [results, h, hp', hq', asAddr, run_loadVar_row (P := Tryz.prog) w g 36 36 cs (0, 0) _ hg Tryz.underlying36 rfl hi]
theorem RCells.one {cs : Array Value} {room : Int} {syn : Nat → List UInt8} {A : Option Addr} {n cap : Nat} (h : RCells cs room syn (.slice A n cap)) : cs.all (·.oneCell') = true := by
  rw [Array.all_eq_true]
  intro i hi
  have hi66 : i < 66 := by have := h.size; omega
  have key : ∀ v, cs[i]? = some v → v.oneCell' = true → (cs[i]).oneCell' = true := fun v hv h1 => by
    rw [Array.getElem?_eq_getElem hi] at hv
    rw [Option.some.inj hv]
    exact h1
  by_cases h0 : i = 0
  · subst h0; exact key _ h.room rfl
  · by_cases h65 : i = 65
    · subst h65; exact key _ h.loose rfl
    · have := h.syn (i - 1) (by omega)
      rw [show 1 + (i - 1) = i by omega] at this
      exact key _ this rfl
theorem RDis.info {w : World} {cs : Array Value} {m : DM} (h : RDis w cs m) : (Tryz.prog.info? 36).map (·.size) = some cs.size := by
  obtain ⟨A, cap, hc, hr⟩ := h
  rw [hc.size]
  kernel_rfl
theorem RDis.one {w : World} {cs : Array Value} {m : DM} (h : RDis w cs m) : cs.all (·.oneCell') = true := by
  obtain ⟨A, cap, hc, hr⟩ := h
  exact hc.one
theorem RDis.zsize {w : World} {cs : Array Value} {m : DM} (h : RDis w cs m) : Tryz.zeroCells36.size = cs.size := by
  obtain ⟨A, cap, hc, hr⟩ := h
  rw [hc.size]
  kernel_rfl
/-- The things' list is the one that was there, or lies in new memory. -/
def FreshR (w : World) (cs0 cs : Array Value) : Prop := cs[65]? = cs0[65]? ∨ ∃ g off n c, cs[65]? = some (.slice (some ⟨g, off, none⟩) n c) ∧ w.heap.size ≤ g
/-- The same, with where the list lies. -/
def GivesRF (m' : DM) (k : Int) (w : World) (cs0 : Array Value) (e : Ending) (w' : World) : Prop := ∃ cs, e = .returned (.tuple #[.agg cs, .int .i64 k]) ∧ RDis w' cs m' ∧ Bel w w' ∧ FreshR w cs0 cs
theorem GivesRF.drop {m' : DM} {k : Int} {w : World} {cs0 : Array Value} {e : Ending} {w' : World} (h : GivesRF m' k w cs0 e w') : GivesR m' k w e w' := by
  obtain ⟨cs, h1, h2, h3, -⟩ := h
  exact ⟨cs, h1, h2, h3⟩
/-- Two blocks, the disk's and the result's. -/
noncomputable def two (w : World) (cs : Array Value) : World := (w.alloc (.cells cs 36)).alloc (.cells Tryz.zeroCells36 36)
theorem two_bel (w : World) (cs : Array Value) : Bel w (two w cs) := ((Bel.refl w).alloc _).alloc _
theorem two_fst (w : World) (cs : Array Value) : (two w cs).heap[w.heap.size]? = some (.cells cs 36 (0, 0)) := (Bel.refl (w.alloc (.cells cs 36))).alloc (.cells Tryz.zeroCells36 36) |>.deferred (World.alloc_heap_new w _)
theorem two_snd (w : World) (cs : Array Value) : (two w cs).heap[w.heap.size + 1]? = some (.cells Tryz.zeroCells36 36 (0, 0)) := by
  have := World.alloc_heap_new (w.alloc (.cells cs 36)) (.cells Tryz.zeroCells36 36)
  rwa [World.size_alloc] at this
theorem two_ret {w W : World} {cs : Array Value} {m : DM} {k : Int} (h : RDis w cs m) (hb : Bel (two w cs) W) : GivesRF m k w cs (.returned (.tuple #[.agg cs, .int .i64 k])) (W.setRow (w.heap.size + 1) cs) :=
  have hb' : Bel w (W.setRow (w.heap.size + 1) cs) := below_setRow ((two_bel w cs).then_ hb) (by omega) cs
  ⟨cs, rfl, h.bel hb', hb', .inl rfl⟩
theorem put_ret {w w2 w9 : World} {cs : Array Value} {m : DM} {x : Th} {F : Int → List UInt8} {A A9 : Option Addr} {cap c9 : Nat} (hc : RCells cs m.room (fun f => m.synced f) (.slice A m.loose.length cap)) (hb9 : Bel w2 w9) (hown : w9.ownsRow w2.heap.size 105 4 (.slice A9 (m.loose.length + 1) c9) (m.loose.length + 1) (rths (m.loose ++ [x]))) (hbw : Bel w w2) {o : Obj} (hlo : w2.heap[w.heap.size + 1]? = some o) :
    GivesRF { m with files := F, loose := m.loose ++ [x] } 0 w cs (.returned (.tuple #[.agg (cs.setIfInBounds 65 (.slice A9 (m.loose.length + 1) c9)), .int .i64 0])) ((w9.setCell ⟨w.heap.size, 65, none⟩ (.slice A9 (m.loose.length + 1) c9)).setRow (w.heap.size + 1) (cs.setIfInBounds 65 (.slice A9 (m.loose.length + 1) c9))) := by
  have hb : Bel w ((w9.setCell ⟨w.heap.size, 65, none⟩ (.slice A9 (m.loose.length + 1) c9)).setRow (w.heap.size + 1) (cs.setIfInBounds 65 (.slice A9 (m.loose.length + 1) c9))) := below_setRow ((hbw.then_ hb9).setCell (Nat.le_refl _) _) (by omega) _
  refine ⟨_, rfl, ⟨A9, c9, ?_, ?_⟩, hb, ?_⟩
  · have := hc.put (v := .slice A9 (m.loose.length + 1) c9) (fun A n c e => by
      injection e with e1 e2 e3
      subst e2 e3
      rcases hown.2 with ⟨-, h0⟩ | ⟨g, cap, cur, hv, -, -, h1, -⟩
      · omega
      · injection hv with e1 e2 e3
        omega)
    rw [show (m.loose ++ [x]).length = m.loose.length + 1 by simp]
    exact this
  · intro hn
    obtain ⟨g, cap', hv, hg1, hg2⟩ := hown.form (by omega)
    cases hv
    have h1 := hbw.size
    have hlow := (Array.getElem?_eq_some_iff.1 hlo).1
    refine ⟨g, 0, rfl, by simpa using hg2, fun j u hu => ?_⟩
    have := hown.cells (g := g) rfl j u hu
    rw [add_free] at this
    rw [cell_setRow_other _ _ _ _ (by show g ≠ w.heap.size + 1; omega), World.cell?_setCell_other _ _ _ _ (fun e => by have := congrArg Addr.block e; simp at this; omega)]
    exact this
  · obtain ⟨g, cap', hv, hg1, hg2⟩ := hown.form (by omega)
    cases hv
    have h1 := hbw.size
    exact .inr ⟨g, 0, _, c9, by rw [Array.getElem?_setIfInBounds_self_of_lt (by rw [hc.size]; omega)], by omega⟩
set_option maxRecDepth 100000 in
theorem rdAppend_fresh {w : World} {cs : Array Value} {m : DM} (h : RDis w cs m) (hfit : RFit m) (hn : m.loose.length < 1000000) (file : Int) (s : List UInt8) (hs : s.length ≤ 1000000000) :
    Calls Tryz.prog 54 #[.agg cs, .int .i64 file, .string ⟨s.toArray⟩] w (GivesRF (m.append file s).1 (m.append file s).2 w cs) := by
  have H := Lib.hid h
  have HFIT := Lib.hid hfit
  have hsI : (s.length : Int) ≤ 1000000000 := by omega
  have hsz : (⟨s.toArray⟩ : ByteArray).size = s.length := rfl
  have HSZ := Lib.hid h.info
  have HONE := Lib.hid h.one
  have HZS := Lib.hid h.zsize
  have HA := Lib.hid (two_fst w cs)
  have HB := Lib.hid (two_snd w cs)
  by_cases hr : file < 0 ∨ 64 ≤ file
  · have hap : m.append file s = (m, 4) := by unfold DM.append; rw [if_pos hr]
    rw [hap]
    clear h hfit hap
    rcases hr with hr | hr
    · go_enter Tryz.func54, Tryz.ntmps54
      go_wp2_with (first | (refine wpList_load_row rfl 36 (.tmp 3) rfl w.heap.size rfl _ cs (0, 0) _ HA.out Tryz.underlying36 rfl HSZ.out ?_) | (refine wpList_store_row rfl 36 (.tmp 6) (.tmp 14) rfl (w.heap.size + 1) cs rfl rfl _ _ HB.out HSZ.out HZS.out HONE.out ?_))
      exact bodyPost_ret (v := .tuple #[.agg cs, .int .i64 4]) (results_row2 rfl _ _ (w.heap.size + 1) cs _ rfl rfl (setRow_heap _ _ _ _ _ _ HB.out) HSZ.out) rfl (two_ret H.out (Bel.refl _))
    · have h0 : 0 ≤ file := by omega
      go_enter Tryz.func54, Tryz.ntmps54
      go_wp2_with (first | (refine wpList_load_row rfl 36 (.tmp 3) rfl w.heap.size rfl _ cs (0, 0) _ HA.out Tryz.underlying36 rfl HSZ.out ?_) | (refine wpList_store_row rfl 36 (.tmp 6) (.tmp 14) rfl (w.heap.size + 1) cs rfl rfl _ _ HB.out HSZ.out HZS.out HONE.out ?_))
      exact bodyPost_ret (v := .tuple #[.agg cs, .int .i64 4]) (results_row2 rfl _ _ (w.heap.size + 1) cs _ rfl rfl (setRow_heap _ _ _ _ _ _ HB.out) HSZ.out) rfl (two_ret H.out (Bel.refl _))
  · have hf0 : 0 ≤ file := by omega
    have hf64 : file < 64 := by omega
    have HL := Lib.hid (rdLeft_any (h.bel (two_bel w cs)) hfit)
    have htot := tot_nonneg m.files
    have hhi := hfit.hi
    have hfitf := hfit.fit.files
    by_cases hfull : m.room - tot m.files < s.length
    · have hap : m.append file s = (m, 190) := by unfold DM.append; rw [if_neg hr, if_pos hfull]
      rw [hap]
      clear h hfit hap hr
      generalize tot m.files = T at *
      go_enter Tryz.func54, Tryz.ntmps54
      go_wp2_with (first | (refine wpList_load_row rfl 36 (.tmp 3) rfl w.heap.size rfl _ cs (0, 0) _ HA.out Tryz.underlying36 rfl HSZ.out ?_) | (go_at_call 70; refine HL.out.mono ?_; rintro e w2 ⟨rfl, hb2⟩; have HB2 := Lib.hid hb2; have HA2 := Lib.hid (hb2.deferred HA.out); have HBB := Lib.hid (hb2.deferred HB.out); clear hb2) | (refine wpList_load_row rfl 36 (.tmp 3) rfl w.heap.size rfl _ cs (0, 0) _ HA2.out Tryz.underlying36 rfl HSZ.out ?_) | (refine wpList_store_row rfl 36 (.tmp 6) (.tmp 20) rfl (w.heap.size + 1) cs rfl rfl _ _ HBB.out HSZ.out HZS.out HONE.out ?_))
      exact bodyPost_ret (v := .tuple #[.agg cs, .int .i64 190]) (results_row2 rfl _ _ (w.heap.size + 1) cs _ rfl rfl (setRow_heap _ _ _ _ _ _ HBB.out) HSZ.out) rfl (two_ret H.out HB2.out)
    · have hap : m.append file s = ({ m with files := doneF m.files ⟨file, s, 0, false⟩, loose := m.loose ++ [⟨file, s, 0, false⟩] }, 0) := by unfold DM.append; rw [if_neg hr, if_neg hfull]
      rw [hap]
      clear h hfit hap hr
      generalize tot m.files = T at *
      obtain ⟨A, cap, hcc, hth⟩ := H.out
      have HC := Lib.hid hcc
      have HT := Lib.hid hth
      have HSZ5 : ∀ v : Value, (Tryz.prog.info? 36).map (·.size) = some (cs.setIfInBounds 65 v).size := fun v => by rw [Array.size_setIfInBounds]; exact HSZ.out
      have HZS5 : ∀ v : Value, Tryz.zeroCells36.size = (cs.setIfInBounds 65 v).size := fun v => by rw [Array.size_setIfInBounds]; exact HZS.out
      have HONE5 : ∀ (A : Option Addr) (n c : Nat), (cs.setIfInBounds 65 (.slice A n c)).all (·.oneCell') = true := fun A n c => one_set HONE.out 65 rfl
      have HON := Lib.hid (rths_one m.loose)
      have HON1 : Hid (∀ u ∈ rth ⟨file, s, 0, false⟩, u.oneCell' = true) := rth_one _
      obtain ⟨i0, hi0, hz0, hz1, hz2⟩ := info_parts infoRT
      have hp4 : (0 : Nat) < 4 := by omega
      have h63a : 0 + m.loose.length ≤ maxLen := by unfold maxLen; omega
      have hbya : (0 + m.loose.length) * 40 ≤ 140737488355328 := by omega
      have h63b : m.loose.length + 1 ≤ maxLen := by unfold maxLen; omega
      have hbyb : (m.loose.length + 1) * 40 ≤ 140737488355328 := by omega
      clear hcc hth
      go_enter Tryz.func54, Tryz.ntmps54
      go_wp2_with (first
                   | (refine wpList_load_row rfl 36 (.tmp 3) rfl w.heap.size rfl _ cs (0, 0) _ HA.out Tryz.underlying36 rfl HSZ.out ?_)
                   | (go_at_call 70; refine HL.out.mono ?_; rintro e w2 ⟨rfl, hb2⟩
                      have HB2 := Lib.hid hb2
                      have hbw := (two_bel w cs).then_ hb2
                      have HBW := Lib.hid hbw
                      have HBB := Lib.hid (hb2.deferred HB.out)
                      have HAA := Lib.hid (hb2.deferred HA.out)
                      have d65 : w2.cell? ⟨w.heap.size, 65, none⟩ = some (.slice A m.loose.length cap) := by have h1 := hb2.deferred HA.out; rw [Blk.cell h1 65]; exact HC.out.loose
                      have hal : Bel w2 (w2.alloc (.cells #[] 105)) := (Bel.refl w2).alloc _
                      have d65a := hal.c d65
                      have HAL := Lib.hid hal
                      have HR1 := Lib.hid ((HT.out.bel hbw).bel hal).reads
                      have HC1 : Hid ((w2.alloc (.cells #[] 105)).ownsRow w2.heap.size 105 4 (.slice (some ⟨w2.heap.size, 0, none⟩) 0 0) 0 []) := ⟨by simp, .inr ⟨w2.heap.size, 0, #[], rfl, Nat.le_refl _, World.alloc_heap_new _ _, Nat.le_refl _, Nat.zero_le _, rfl, rfl⟩⟩
                      clear hb2 hbw hal d65)
                   | (at_builtin; refine wpList_append_any _ rfl (.tmp 21) (.tmp 23) _ rfl w2.heap.size 105 i0 _ 4 40 Tryz.underlying34 hi0 hz0 hz1 hz2 rfl hp4 _ 0 [] rfl HC1.out _ A m.loose.length cap (rths m.loose) rfl HR1.out HON.out h63a hbya HAL.out.size ?_
                      intro v8 w8 hown8 hg8 hat8
                      simp only [Nat.zero_add, List.nil_append] at hown8
                      obtain ⟨A8, c8, rfl⟩ := row_any hown8
                      have hb8 : Bel w2 w8 := Below.grown HAL.out hg8 HAL.out.size (fun j e => (HC1.out.lt j e).1)
                      have HO8 := Lib.hid hown8
                      have HB8 := Lib.hid hb8
                      have hal8 : Bel w8 (w8.alloc (.cells #[.int .i64 file, .int .i64 0, .bool false, .string ⟨s.toArray⟩] 105)) := (Bel.refl w8).alloc _
                      have HO8' := Lib.hid (ownsRow_bel hown8 hal8)
                      have HX8 : Hid (Reads (w8.alloc (.cells #[.int .i64 file, .int .i64 0, .bool false, .string ⟨s.toArray⟩] 105)) (w8.heap.size + 1) 4 (some ⟨w8.heap.size, 0, none⟩) 1 (rth ⟨file, s, 0, false⟩)) := reads4 w8 _ _ _ _ _
                      have HS8 : Hid (w2.heap.size ≤ (w8.alloc (.cells #[.int .i64 file, .int .i64 0, .bool false, .string ⟨s.toArray⟩] 105)).heap.size) := Nat.le_trans hb8.size hal8.size
                      have HAL8 := Lib.hid hal8
                      clear hown8 hg8 hat8 hb8 hal8)
                   | (at_builtin; refine wpList_append_any _ rfl (.tmp 24) (.tmp 28) _ rfl w2.heap.size 105 i0 _ 4 40 Tryz.underlying34 hi0 hz0 hz1 hz2 rfl hp4 _ m.loose.length (rths m.loose) rfl HO8'.out _ (some ⟨w8.heap.size, 0, none⟩) 1 1 (rth ⟨file, s, 0, false⟩) rfl HX8.out HON1.out h63b hbyb HS8.out ?_
                      intro v9 w9 hown9 hg9 hat9
                      obtain ⟨A9, c9, rfl⟩ := row_any hown9
                      have hb9 : Bel w2 w9 := Below.grown (HB8.out.then_ HAL8.out) hg9 HS8.out (fun j e => (HO8.out.lt j e).1)
                      have HO9 := Lib.hid hown9
                      have HB9 := Lib.hid hb9
                      have hbl9 := hb9.deferred HAA.out
                      have HBLK9 : Hid ((w9.setCell ⟨w.heap.size, 65, none⟩ (.slice A9 (m.loose.length + 1) c9)).heap[w.heap.size]? = some (.cells (cs.setIfInBounds 65 (.slice A9 (m.loose.length + 1) c9)) 36 (0, 0))) := Blk.set_ hbl9 65 _
                      have HBB9 : Hid ((w9.setCell ⟨w.heap.size, 65, none⟩ (.slice A9 (m.loose.length + 1) c9)).heap[w.heap.size + 1]? = some (.cells Tryz.zeroCells36 36 (0, 0))) := by
                        show _ = _
                        rw [Below.heap_setCell _ _ _ _ (by simp)]
                        exact hb9.deferred HBB.out
                      have k65 : w9.cell? ⟨w.heap.size, 65, none⟩ = some (.slice A m.loose.length cap) := by rw [Blk.cell hbl9 65]; exact HC.out.loose
                      have kfz : w9.frozen? ⟨w.heap.size, 65, none⟩ = false := Blk.frozen hbl9 65
                      clear hown9 hg9 hat9 hb9 hbl9)
                   | (refine wpList_load_row rfl 36 (.tmp 3) rfl w.heap.size rfl _ (cs.setIfInBounds 65 (.slice A9 (m.loose.length + 1) c9)) (0, 0) _ HBLK9.out Tryz.underlying36 rfl (HSZ5 _) ?_)
                   | (refine wpList_store_row rfl 36 (.tmp 6) (.tmp 31) rfl (w.heap.size + 1) (cs.setIfInBounds 65 (.slice A9 (m.loose.length + 1) c9)) rfl rfl _ _ HBB9.out (HSZ5 _) (HZS5 _) (HONE5 _ _ _) ?_))
      refine bodyPost_ret (v := .tuple #[.agg (cs.setIfInBounds 65 (.slice A9 (m.loose.length + 1) c9)), .int .i64 0]) (results_row2 rfl _ _ (w.heap.size + 1) _ _ rfl rfl (setRow_heap _ _ _ _ _ _ HBB9.out) (HSZ5 _)) rfl ?_
      have hown : w9.ownsRow w2.heap.size 105 4 (.slice A9 (m.loose.length + 1) c9) (m.loose.length + 1) (rths (m.loose ++ [⟨file, s, 0, false⟩])) := by rw [rths_snoc]; exact HO9.out
      exact put_ret HC.out HB9.out hown HBW.out HBB.out
theorem rdAppend_any {w : World} {cs : Array Value} {m : DM} (h : RDis w cs m) (hfit : RFit m) (hn : m.loose.length < 1000000) (file : Int) (s : List UInt8) (hs : s.length ≤ 1000000000) :
    Calls Tryz.prog 54 #[.agg cs, .int .i64 file, .string ⟨s.toArray⟩] w (GivesR (m.append file s).1 (m.append file s).2 w) := (rdAppend_fresh h hfit hn file s hs).mono fun _ _ h => h.drop
end Go.Proofs.YtiajggmnfaidjaaGreatDoor
