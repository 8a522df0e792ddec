/-
  The document's disk: what it is, as values; New, done, File.
-/
import Derived.Test.YtiajggmnfaidjaaGreatDoorDw
import Derived.Deep.WholeRow
set_option linter.unusedVariables false
set_option linter.unusedSimpArgs false
set_option linter.unusedVariables false
set_option linter.unusedSimpArgs false
namespace Go.Proofs.YtiajggmnfaidjaaGreatDoor
open Go.RowKit

/-- One thing's four cells. -/
def rth (x : Th) : List Value := [.int .i64 x.file, .int .i64 x.many, .bool x.cuts, .string ⟨x.bytes.toArray⟩]
def rths (l : List Th) : List Value := l.flatMap rth
theorem rths_at : ∀ (l : List Th) (k j : Nat) (x : Th), l[k]? = some x → j < 4 → (rths l)[k * 4 + j]? = (rth x)[j]?
  | [], k, j, x, h, _ => by simp at h
  | y :: l, 0, j, x, h, hj => by
    simp at h
    subst h
    show (rth y ++ rths l)[0 * 4 + j]? = _
    rw [List.getElem?_append_left (by simp [rth]; omega)]
    simp
  | y :: l, k + 1, j, x, h, hj => by
    show (rth y ++ rths l)[(k + 1) * 4 + j]? = _
    have e : (rth y).length = 4 := rfl
    rw [List.getElem?_append_right (by omega), e, show (k + 1) * 4 + j - 4 = k * 4 + j by omega]
    exact rths_at l k j x (by simpa using h) hj
theorem rths_length (l : List Th) : (rths l).length = l.length * 4 := by
  induction l with
  | nil => rfl
  | cons y l ih => show (rth y ++ rths l).length = _; rw [List.length_append, ih]; simp [rth]; omega
/-- A disk's 66 cells. -/
structure RCells (cs : Array Value) (room : Int) (syn : Nat → List UInt8) (L : Value) : Prop where
  size : cs.size = 66
  room : cs[0]? = some (.int .i64 room)
  syn : ∀ f, f < 64 → cs[1 + f]? = some (.string ⟨(syn f).toArray⟩)
  loose : cs[65]? = some L
  le : ∀ A n c, L = .slice A n c → n ≤ c
/-- Things, as a slice reads. -/
def RThs (w : World) (A : Option Addr) (l : List Th) : Prop := 0 < l.length → ∃ g off, A = some ⟨g, off, none⟩ ∧ g < w.heap.size ∧ ∀ j u, (rths l)[j]? = some u → w.cell? ⟨g, off + j, none⟩ = some u
theorem RThs.bel {w w' : World} {A : Option Addr} {l : List Th} (h : RThs w A l) (hb : Bel w w') : RThs w' A l := fun hn => by
  obtain ⟨g, off, e, hg, hc⟩ := h hn
  exact ⟨g, off, e, Nat.lt_of_lt_of_le hg hb.size, fun j u hu => hb.c (hc j u hu)⟩
theorem RThs.at_ {w : World} {A : Option Addr} {l : List Th} (h : RThs w A l) {k : Nat} {x : Th} (hx : l[k]? = some x) : ∃ g off, A = some ⟨g, off, none⟩ ∧ w.cell? ⟨g, off + k * 4, none⟩ = some (.int .i64 x.file) ∧ w.cell? ⟨g, off + k * 4 + 1, none⟩ = some (.int .i64 x.many) ∧ w.cell? ⟨g, off + k * 4 + 2, none⟩ = some (.bool x.cuts) ∧ w.cell? ⟨g, off + k * 4 + 3, none⟩ = some (.string ⟨x.bytes.toArray⟩) := by
  have hlt := (List.getElem?_eq_some_iff.1 hx).1
  obtain ⟨g, off, e, hg, hc⟩ := h (by omega)
  exact ⟨g, off, e, hc (k * 4) _ ((rths_at l k 0 x hx (by omega)).trans rfl), hc (k * 4 + 1) _ ((rths_at l k 1 x hx (by omega)).trans rfl), hc (k * 4 + 2) _ ((rths_at l k 2 x hx (by omega)).trans rfl), hc (k * 4 + 3) _ ((rths_at l k 3 x hx (by omega)).trans rfl)⟩
/-- A disk as the document's, with the model's room, synced files and loose things. -/
def RDis (w : World) (cs : Array Value) (m : DM) : Prop := ∃ A cap, RCells cs m.room (fun f => m.synced f) (.slice A m.loose.length cap) ∧ RThs w A m.loose
theorem RDis.bel {w w' : World} {cs : Array Value} {m : DM} (h : RDis w cs m) (hb : Bel w w') : RDis w' cs m := by
  obtain ⟨A, cap, h1, h2⟩ := h
  exact ⟨A, cap, h1, h2.bel hb⟩
/-- The files behind the first k things. -/
def DM.upTo (m : DM) (k : Nat) : Int → List UInt8 := (m.loose.take k).foldl doneF m.synced
theorem DM.upTo_succ (m : DM) {k : Nat} {x : Th} (h : m.loose[k]? = some x) : m.upTo (k + 1) = doneF (m.upTo k) x := by
  unfold DM.upTo
  rw [List.take_add_one, h]
  simp
/-- What may be asked of it. -/
structure RFit (m : DM) : Prop where
  lo : 0 < m.room
  hi : m.room ≤ 16777216
  few : m.loose.length ≤ 1000000
  file : ∀ x ∈ m.loose, 0 ≤ x.file ∧ x.file < 64
  many : ∀ x ∈ m.loose, 0 ≤ x.many
  bytes : ∀ x ∈ m.loose, x.bytes.length ≤ 16777216
  tots : ∀ k, tot (m.upTo k) ≤ m.room
  files : m.files = m.upTo m.loose.length
theorem RFit.len {m : DM} (h : RFit m) (k : Nat) (f : Int) (h0 : 0 ≤ f) (h64 : f < 64) : (m.upTo k f).length ≤ 16777216 := by
  have h1 := len_le_tot (m.upTo k) f h0 h64
  have h2 := h.tots k
  have h3 := h.hi
  omega
theorem RFit.fit {m : DM} (h : RFit m) : Fit m := ⟨h.lo, h.hi, by rw [h.files]; exact h.tots _, h.few⟩
theorem zeroR : ((List.range 64).all fun f => match Tryz.zeroCells36[1 + f]? with | some (.string s) => s.size == 0 | _ => false) = true := by kernel_rfl
theorem zeroR_at (f : Nat) (hf : f < 64) : Tryz.zeroCells36[1 + f]? = some (.string ⟨#[]⟩) := by
  have := List.all_eq_true.1 zeroR f (List.mem_range.2 hf)
  split at this
  · rename_i s hs
    rw [hs]
    obtain ⟨d⟩ := s
    have hd : d = #[] := by simpa [ByteArray.size] using this
    rw [hd]
  · cases this
set_option maxRecDepth 100000 in
theorem rNew_any (room : Int) (w : World) : Calls Tryz.prog 10 #[.int .i64 room] w fun e w' => ∃ cs, e = .returned (.agg cs) ∧ RDis w' cs (DM.new room) ∧ Bel w w' := by
  have hst := run_storeCells_new (P := Tryz.prog) w 36 Tryz.zeroCells36 (Tryz.zeroCells36.setIfInBounds 0 (.int .i64 room)) (by rw [Array.size_setIfInBounds]; kernel_rfl) (by rw [Array.size_setIfInBounds]) (by
    rw [Array.all_eq_true]
    intro i hi
    rw [Array.getElem_setIfInBounds]
    split
    · rfl
    · have := (Array.all_eq_true.1 (show Tryz.zeroCells36.all (·.oneCell') = true by kernel_rfl)) i (by simpa using hi)
      exact this)
  rw [Array.toList_setIfInBounds] at hst
  have hD : RDis (w.alloc (.cells (Tryz.zeroCells36.setIfInBounds 0 (.int .i64 room)) 36)) (Tryz.zeroCells36.setIfInBounds 0 (.int .i64 room)) (DM.new room) := by
    refine ⟨none, 0, ⟨?_, ?_, fun f hf => ?_, ?_, fun A n c e => by injection e with e1 e2 e3; subst e2 e3; exact Nat.le_refl _⟩, fun h => absurd h (by simp [DM.new])⟩
    · rw [Array.size_setIfInBounds]; kernel_rfl
    · rw [Array.getElem?_setIfInBounds_self_of_lt (by rw [show Tryz.zeroCells36.size = 66 by kernel_rfl]; decide)]; rfl
    · rw [Array.getElem?_setIfInBounds_ne (by omega)]; exact zeroR_at f hf
    · rw [Array.getElem?_setIfInBounds_ne (by omega)]; kernel_rfl
  have HD := Lib.hid hD
  clear hD
  go_enter Tryz.func10, Tryz.ntmps10
  go_wp2
  exact bodyPost_ret (v := .agg (Tryz.zeroCells36.setIfInBounds 0 (.int .i64 room))) (results_cell_row rfl _ _ w.heap.size _ _ _ _ rfl (World.alloc_heap_new _ _) Tryz.underlying36 rfl (by rw [Array.size_setIfInBounds]; kernel_rfl)) rfl ⟨_, rfl, HD.out, (Bel.refl w).alloc _⟩
theorem cat_bytes' (a b : List UInt8) : (⟨a.toArray⟩ : ByteArray) ++ (⟨b.toArray⟩ : ByteArray) = ⟨(a ++ b).toArray⟩ := by
  apply ByteArray.ext
  simp
theorem take_bytes (s : List UInt8) (n : Nat) : (⟨s.toArray⟩ : ByteArray).extract 0 n = ⟨(s.take n).toArray⟩ := by
  apply ByteArray.ext
  simp
set_option maxRecDepth 100000 in
theorem rdone_any (s : List UInt8) (x : Th) (hm : 0 ≤ x.many) (hs : s.length + x.bytes.length ≤ 1000000000) (w : World) : Calls Tryz.prog 51 #[.string ⟨s.toArray⟩, .agg #[.int .i64 x.file, .int .i64 x.many, .bool x.cuts, .string ⟨x.bytes.toArray⟩]] w fun e w' => e = .returned (.string ⟨(x.does s).toArray⟩) ∧ Bel w w' := by
  have hsI : (s.length : Int) ≤ 1000000000 := by omega
  have hcat : ¬ 9223372036854775807 < s.length + x.bytes.length := by omega
  obtain ⟨file, bytes, many, cuts⟩ := x
  have hcb := cat_bytes' s bytes
  cases cuts
  · go_enter Tryz.func51, Tryz.ntmps51
    go_wp2
    go_ret
    exact ⟨congrArg Ending.returned (congrArg Value.string hcb), (Bel.refl w).alloc _⟩
  · by_cases hle : (s.length : Int) ≤ many
    · have htk := take_bytes s s.length
      rw [List.take_length] at htk
      have hdo : (⟨file, bytes, many, true⟩ : Th).does s = s := by show s.take many.toNat = s; exact List.take_of_length_le (by omega)
      rw [hdo]
      clear hdo hm
      go_enter Tryz.func51, Tryz.ntmps51
      go_wp2
      go_ret
      exact ⟨by first | exact congrArg Ending.returned (congrArg Value.string htk) | rfl, (Bel.refl w).alloc _⟩
    · have htk := take_bytes s many.toNat
      have hlt : many < s.length := by omega
      clear hle
      go_enter Tryz.func51, Tryz.ntmps51
      go_wp2
      go_ret
      exact ⟨by first | exact congrArg Ending.returned (congrArg Value.string htk) | rfl, (Bel.refl w).alloc _⟩
set_option maxRecDepth 100000 in
theorem rdFile_any {w : World} {cs : Array Value} {m : DM} (h : RDis w cs m) (hfit : RFit m) (file : Nat) (hf : file < 64) : Calls Tryz.prog 23 #[.agg cs, .int .i64 file] w fun e w' => e = .returned (.string ⟨(m.files file).toArray⟩) ∧ Bel w w' := by
  obtain ⟨A, cap, hc, hr⟩ := h
  have hfI : (file : Int) < 64 := by omega
  have c1 := hc.syn file hf
  have c65 := hc.loose
  have HR := Lib.hid hr
  have HFIT := Lib.hid hfit
  have hnI : (m.loose.length : Int) ≤ 1000000 := by have := hfit.few; omega
  clear hc hr hfit
  obtain ⟨W, hW⟩ : ∃ W, W = w.alloc (.cells cs 36) := ⟨_, rfl⟩
  have hbW : Bel w W := by rw [hW]; exact (Bel.refl w).alloc _
  have d65 : W.cell? ⟨w.heap.size, 65, none⟩ = some (.slice A m.loose.length cap) := by rw [hW]; simpa using c65
  have HBW := Lib.hid hbW
  have HD65 := Lib.hid d65
  clear c65 d65 hbW
  go_enter Tryz.func23, Tryz.ntmps23
  go_wp2
  rw [← hW]
  clear hW
  go_loopw [5, 6] (fun v i wr => ∃ k : Nat, k ≤ m.loose.length ∧ i = .int .i64 k ∧ v = .string ⟨(m.upTo k file).toArray⟩ ∧ Hid (Bel W wr)) (fun _ i _ => m.loose.length - (intOf i).toNat)
  case atStart => exact ⟨0, Nat.zero_le _, rfl, rfl, Bel.refl W⟩
  case round =>
    obtain ⟨k, hk, rfl, rfl, HB⟩ := hrel
    have d65 := HB.out.c HD65.out
    by_cases hlt : k < m.loose.length
    · obtain ⟨x, hx⟩ : ∃ x, m.loose[k]? = some x := ⟨_, List.getElem?_eq_getElem hlt⟩
      obtain ⟨g, off, rfl, x0, x1, x2, x3⟩ := (HR.out.bel (HBW.out.then_ HB.out)).at_ hx
      have hmem := List.mem_of_getElem? hx
      have hdone := rdone_any (m.upTo k file) x (HFIT.out.many x hmem) (by have := HFIT.out.len k file (by omega) (by omega); have := HFIT.out.bytes x hmem; omega) wr
      have hnx : m.upTo (k + 1) file = if (file : Int) = x.file then x.does (m.upTo k x.file) else m.upTo k file := by rw [DM.upTo_succ m hx]; rfl
      have HDN := Lib.hid hdone
      have HNX := Lib.hid hnx
      have hkI : (k : Int) < m.loose.length := by omega
      clear hx hmem hdone hnx
      generalize m.loose.length = n at *
      by_cases hfx : (file : Int) = x.file
      · have hb1 : (x.file == (file : Int)) = true := by simp [hfx]
        have HNX2 : Hid (m.upTo (k + 1) file = x.does (m.upTo k file)) := by have := HNX.out; rw [if_pos hfx, ← hfx] at this; exact this
        clear hfx HNX
        go_wp2_with fail
        refine HDN.out.mono ?_
        rintro e w2 ⟨rfl, hb2⟩
        have HB2 := Lib.hid (HB.out.then_ hb2)
        clear hb2 HDN
        go_wp2
        go_roundw
        case rel => exact ⟨k + 1, by omega, by go_num, by rw [HNX2.out], HB2.out⟩
        case measure => simp [intOf]; omega
      · have hb1 : (x.file == (file : Int)) = false := by simp; omega
        have HNX2 : Hid (m.upTo (k + 1) file = m.upTo k file) := by have := HNX.out; rw [if_neg hfx] at this; exact this
        clear hfx HNX
        go_wp2
        go_roundw
        case rel => exact ⟨k + 1, by omega, by go_num, by rw [HNX2.out], HB.out⟩
        case measure => simp [intOf]; omega
    · obtain rfl : k = m.loose.length := by omega
      have hke := decide_eq_false (show ¬ ((m.loose.length : Int) < m.loose.length) by omega)
      go_wp2
      go_ret
      rw [HFIT.out.files]
      exact ⟨rfl, HBW.out.then_ HB.out⟩
set_option maxRecDepth 100000 in
theorem rdLeft_any {w : World} {cs : Array Value} {m : DM} (h : RDis w cs m) (hfit : RFit m) : Calls Tryz.prog 70 #[.agg cs] w fun e w' => e = .returned (.int .i64 (m.room - tot m.files)) ∧ Bel w w' := by
  have H := Lib.hid h
  have HFIT := Lib.hid hfit
  obtain ⟨A, cap, hc, hr⟩ := h
  have c0 := hc.room
  have HSZ : Hid ((Tryz.prog.info? 36).map (·.size) = some cs.size) := by show _ = _; rw [hc.size]; kernel_rfl
  have hpos := hfit.lo
  have hroomI := hfit.hi
  obtain ⟨W, hW⟩ : ∃ W, W = w.alloc (.cells cs 36) := ⟨_, rfl⟩
  have hbW : Bel w W := by rw [hW]; exact (Bel.refl w).alloc _
  have hblk : W.heap[w.heap.size]? = some (.cells cs 36 (0, 0)) := by rw [hW]; exact World.alloc_heap_new _ _
  have HBW := Lib.hid hbW
  have HBLK := Lib.hid hblk
  clear hc hr hfit hblk hbW
  go_enter Tryz.func70, Tryz.ntmps70
  go_wp2
  rw [← hW]
  clear hW
  go_loopw [3, 4] (fun v i wr => ∃ k : Nat, k ≤ 64 ∧ i = .int .i64 k ∧ v = .int .i64 (m.room - sumTo (fun j => ((m.files j).length : Int)) k) ∧ (0 ≤ sumTo (fun j => ((m.files j).length : Int)) k ∧ sumTo (fun j => ((m.files j).length : Int)) k ≤ 16777216 * k) ∧ Hid (Bel W wr)) (fun _ i _ => 64 - (intOf i).toNat)
  case atStart => exact ⟨0, Nat.zero_le _, rfl, by simp [sumTo], by simp [sumTo], Bel.refl W⟩
  case round =>
    obtain ⟨k, hk, rfl, rfl, ⟨hs1, hs2⟩, HB⟩ := hrel
    by_cases hlt : k < 64
    · have HF := Lib.hid (rdFile_any (H.out.bel (HBW.out.then_ HB.out)) HFIT.out k hlt)
      have HBL := Lib.hid (HB.out.deferred HBLK.out)
      have hlen : (m.files k).length ≤ 16777216 := by rw [HFIT.out.files]; exact HFIT.out.len _ _ (by omega) (by omega)
      have HS : Hid (sumTo (fun j => ((m.files j).length : Int)) (k + 1) = sumTo (fun j => ((m.files j).length : Int)) k + ((m.files k).length : Int)) := rfl
      have hkI : (k : Int) < 64 := by omega
      have hlI : ((m.files k).length : Int) ≤ 16777216 := by omega
      generalize sumTo (fun j => ((m.files j).length : Int)) k = S at *
      have hsz : (⟨(m.files k).toArray⟩ : ByteArray).size = (m.files k).length := rfl
      generalize hfs : m.files k = fs at *
      clear hfs hlen
      have hS3 : S ≤ 1073741824 := by omega
      go_wp2_with (first | (refine wpList_load_row rfl 36 (.tmp 1) rfl w.heap.size rfl _ cs (0, 0) _ HBL.out Tryz.underlying36 rfl HSZ.out ?_) | (go_at_call 23; refine HF.out.mono ?_; rintro e w2 ⟨rfl, hb2⟩; have HB2 := Lib.hid (HB.out.then_ hb2); clear hb2))
      go_roundw
      case rel => exact ⟨k + 1, by omega, by go_num, by rw [HS.out]; congr 1; omega, by rw [HS.out]; omega, HB2.out⟩
      case measure => simp [intOf]; omega
    · obtain rfl : k = 64 := by omega
      go_wp2
      go_ret
      exact ⟨rfl, HBW.out.then_ HB.out⟩
end Go.Proofs.YtiajggmnfaidjaaGreatDoor
