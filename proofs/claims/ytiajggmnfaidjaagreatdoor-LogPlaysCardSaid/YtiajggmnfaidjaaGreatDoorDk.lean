/-
  The disk: what stands in memory, as a model; the small functions.
-/
import Derived.Test.YtiajggmnfaidjaaGreatDoorDb
import Derived.Test.YtiajggmnfaidjaaGreatDoorAs
import Derived.StillTailTactics
import Derived.Deep.RegionHeld3
set_option linter.unusedVariables false
set_option linter.unusedSimpArgs false
set_option linter.unusedVariables false
set_option linter.unusedSimpArgs false
namespace Go.Proofs.YtiajggmnfaidjaaGreatDoor
open Go.RowKit

/-- What was done. -/
structure Th where
  file : Int
  bytes : List UInt8
  many : Int
  cuts : Bool
def Th.does (x : Th) (s : List UInt8) : List UInt8 := if x.cuts then s.take x.many.toNat else s ++ x.bytes
structure DM where
  room : Int
  files : Int → List UInt8
  synced : Int → List UInt8
  loose : List Th
def setF (f : Int → List UInt8) (k : Int) (s : List UInt8) : Int → List UInt8 := fun x => if x = k then s else f x
def doneF (f : Int → List UInt8) (x : Th) : Int → List UInt8 := setF f x.file (x.does (f x.file))

/-- Files in a map's block. -/
def FilesAt (w : World) (mb : Nat) (f : Int → List UInt8) (fp : Nat → Prop) : Prop :=
  fp mb ∧ ∃ g, MapAt w mb g ∧ (∀ k v, g k = some v → 0 ≤ k ∧ k < 64 ∧ BytesAt w v (f k) fp) ∧ ∀ k, g k = none → f k = []
/-- One thing's five cells. -/
def ThingAt (w : World) (cs : List Value) (x : Th) (fp : Nat → Prop) : Prop :=
  (0 ≤ x.file ∧ x.file < 64) ∧ ((x.cuts = false ∧ x.many = 0 ∧ ∃ bx v, fp bx ∧ cs = [.int .i64 x.file, .func (.func 62) #[] #[.pointer (some ⟨bx, 0, none⟩)], v, .int .i64 0, .bool false] ∧ w.heap[bx]? = some (.cells #[v] 43 (0, 0)) ∧ BytesAt w v x.bytes fp) ∨
  (x.cuts = true ∧ x.bytes = [] ∧ 0 ≤ x.many ∧ x.many ≤ 16777216 ∧ ∃ bx, fp bx ∧ cs = [.int .i64 x.file, .func (.func 66) #[] #[.pointer (some ⟨bx, 0, none⟩)], .slice none 0 0, .int .i64 x.many, .bool true] ∧ w.heap[bx]? = some (.cells #[.int .i64 x.many] 3 (0, 0))))
/-- The cells of several things. -/
def ThingsAt (w : World) (cs : List Value) (l : List Th) (fp : Nat → Prop) : Prop := ∀ i x, l[i]? = some x → ThingAt w ((cs.drop (i * 5)).take 5) x fp
def LooseAt (w : World) (L : Value) (l : List Th) (fp : Nat → Prop) : Prop := ∃ cs, w.ownsRow 0 93 5 L l.length cs ∧ (∀ g, L.ownBlock = some g → fp g) ∧ ThingsAt w cs l fp
def DiskIs (w : World) (bd : Nat) (m : DM) (fp : Nat → Prop) : Prop :=
  ∃ mf ms L, w.heap[bd]? = some (.cells #[.map (some mf), .int .i64 m.room, .map (some ms), L] 61 (0, 0)) ∧ fp bd ∧ mf ≠ ms ∧ FilesAt w mf m.files fp ∧ FilesAt w ms m.synced fp ∧ LooseAt w L m.loose fp
/-- From w to w' only what fp held has turned; what fp' holds was held or is new. -/
structure Opp (fp fp' : Nat → Prop) (w w' : World) : Prop where
  os : w'.os = w.os
  tape : w'.tape = w.tape
  output : w'.output = w.output
  size : w.heap.size ≤ w'.heap.size
  block : ∀ k, k < w.heap.size → ¬ fp k → w'.heap[k]? = w.heap[k]?
  sub : ∀ b, fp' b → fp b ∨ w.heap.size ≤ b

theorem Opp.refl (fp : Nat → Prop) (w : World) : Opp fp fp w w := ⟨rfl, rfl, rfl, Nat.le_refl _, fun _ _ _ => rfl, fun _ h => .inl h⟩
theorem Opp.trans {fp fp' fp'' : Nat → Prop} {a b c : World} (h : Opp fp fp' a b) (k : Opp fp' fp'' b c) : Opp fp fp'' a c :=
  ⟨k.os.trans h.os, k.tape.trans h.tape, k.output.trans h.output, Nat.le_trans h.size k.size,
   fun i hi hn => (k.block i (Nat.lt_of_lt_of_le hi h.size) (fun hp => (h.sub i hp).elim hn (fun h => by omega))).trans (h.block i hi hn),
   fun i hi => (k.sub i hi).elim (fun h' => h.sub i h') (fun h' => .inr (Nat.le_trans h.size h'))⟩
theorem Opp.of_bel {fp : Nat → Prop} {w w' : World} (h : Bel w w') : Opp fp fp w w' := ⟨h.os, h.tape, h.output, h.size, fun k hk _ => h.block k hk, fun _ h => .inl h⟩
theorem Opp.below {fp fp' : Nat → Prop} {w w' : World} {B : Nat} (h : Opp fp fp' w w') (hB : B ≤ w.heap.size) (hf : ∀ b, fp b → B ≤ b) : Below B w w' :=
  ⟨h.os, h.tape, h.output, h.size, fun k hk => h.block k (by omega) (fun hp => by have := hf k hp; omega)⟩

section
variable {w w' : World} {fp fp' : Nat → Prop}
theorem FilesAt.kept {mb : Nat} {f : Int → List UInt8} (h : FilesAt w mb f fp) (hk : ∀ b, fp b → b < w.heap.size → w'.heap[b]? = w.heap[b]?) (hf : ∀ b, fp b → fp' b) : FilesAt w' mb f fp' := by
  obtain ⟨h0, g, hm, h1, h2⟩ := h
  refine ⟨hf _ h0, g, hm.of_block (hk mb h0 hm.lt), fun k v hv => ?_, h2⟩
  obtain ⟨a, b, c⟩ := h1 k v hv
  exact ⟨a, b, c.kept hk (fun b h _ => hf b h)⟩
theorem ThingAt.kept {cs : List Value} {x : Th} (h : ThingAt w cs x fp) (hk : ∀ b, fp b → b < w.heap.size → w'.heap[b]? = w.heap[b]?) (hf : ∀ b, fp b → fp' b) : ThingAt w' cs x fp' := by
  refine ⟨h.1, ?_⟩
  rcases h.2 with ⟨h1, h2, bx, v, h3, h4, h5, h6⟩ | ⟨h1, h2, h3, h4, bx, h5, h6, h7⟩
  · exact .inl ⟨h1, h2, bx, v, hf _ h3, h4, (hk bx h3 (Array.getElem?_eq_some_iff.1 h5).1).trans h5, h6.kept hk (fun b h _ => hf b h)⟩
  · exact .inr ⟨h1, h2, h3, h4, bx, hf _ h5, h6, (hk bx h5 (Array.getElem?_eq_some_iff.1 h7).1).trans h7⟩
theorem ThingsAt.kept {cs : List Value} {l : List Th} (h : ThingsAt w cs l fp) (hk : ∀ b, fp b → b < w.heap.size → w'.heap[b]? = w.heap[b]?) (hf : ∀ b, fp b → fp' b) : ThingsAt w' cs l fp' := fun i x hi => (h i x hi).kept hk hf
theorem ownsRow_kept {base : Nat} {e : TypeId} {size : Nat} {v : Value} {n : Nat} {xs : List Value} (h : w.ownsRow base e size v n xs) (hk : ∀ b, v.ownBlock = some b → b < w.heap.size → w'.heap[b]? = w.heap[b]?) : w'.ownsRow base e size v n xs := by
  refine ⟨h.1, ?_⟩
  rcases h.2 with h2 | ⟨g, cap, cur, hv, hg, hh, r⟩
  · exact .inl h2
  · exact .inr ⟨g, cap, cur, hv, hg, (hk g (by rw [hv]; rfl) (Array.getElem?_eq_some_iff.1 hh).1).trans hh, r⟩
theorem LooseAt.kept {L : Value} {l : List Th} (h : LooseAt w L l fp) (hk : ∀ b, fp b → b < w.heap.size → w'.heap[b]? = w.heap[b]?) (hf : ∀ b, fp b → fp' b) : LooseAt w' L l fp' := by
  obtain ⟨cs, h1, h2, h3⟩ := h
  exact ⟨cs, ownsRow_kept h1 (fun b hb hl => hk b (h2 b hb) hl), fun g hg => hf g (h2 g hg), h3.kept hk hf⟩
theorem DiskIs.kept {bd : Nat} {m : DM} (h : DiskIs w bd m fp) (hk : ∀ b, fp b → b < w.heap.size → w'.heap[b]? = w.heap[b]?) : DiskIs w' bd m fp := by
  obtain ⟨mf, ms, L, h1, h2, h3, h4, h5, h6⟩ := h
  exact ⟨mf, ms, L, (hk bd h2 (Array.getElem?_eq_some_iff.1 h1).1).trans h1, h2, h3, h4.kept hk (fun _ h => h), h5.kept hk (fun _ h => h), h6.kept hk (fun _ h => h)⟩
theorem DiskIs.bel {bd : Nat} {m : DM} (h : DiskIs w bd m fp) (hb : Bel w w') : DiskIs w' bd m fp := h.kept fun b _ hl => hb.block b hl
theorem DiskIs.lt {bd : Nat} {m : DM} (h : DiskIs w bd m fp) : bd < w.heap.size := by
  obtain ⟨mf, ms, L, h1, _⟩ := h
  exact (Array.getElem?_eq_some_iff.1 h1).1
end

/-! The small functions. -/
theorem none_nil (w : World) : Calls Tryz.prog 40 #[.pointer none] w fun e w' => e = .returned (.bool true) ∧ w = w' := by
  go_enter Tryz.func40, Tryz.ntmps40
  go_wp2
  go_ret
  exact ⟨rfl, rfl⟩
theorem none_zero (bd : Nat) (c0 c2 c3 : Value) (T : TypeId) (w : World) (h : w.heap[bd]? = some (.cells #[c0, .int .i64 0, c2, c3] T (0, 0))) : Calls Tryz.prog 40 #[.pointer (some ⟨bd, 0, none⟩)] w fun e w' => e = .returned (.bool true) ∧ w = w' := by
  have h1 : w.cell? ⟨bd, 1, none⟩ = some (.int .i64 0) := by simp [World.cell?, h]
  clear h
  go_enter Tryz.func40, Tryz.ntmps40
  go_wp2
  go_ret
  exact ⟨rfl, rfl⟩
theorem none_any (bd : Nat) (room : Int) (hr : room ≠ 0) (c0 c2 c3 : Value) (T : TypeId) (w : World) (h : w.heap[bd]? = some (.cells #[c0, .int .i64 room, c2, c3] T (0, 0))) : Calls Tryz.prog 40 #[.pointer (some ⟨bd, 0, none⟩)] w fun e w' => e = .returned (.bool false) ∧ w = w' := by
  have h1 : w.cell? ⟨bd, 1, none⟩ = some (.int .i64 room) := by simp [World.cell?, h]
  have h2 : (room == 0) = false := beq_eq_false_iff_ne.2 hr
  clear h hr
  go_enter Tryz.func40, Tryz.ntmps40
  go_wp2
  go_ret
  exact ⟨rfl, rfl⟩
theorem none_disk {w : World} {bd : Nat} {m : DM} {fp : Nat → Prop} (h : DiskIs w bd m fp) (hr : m.room ≠ 0) : Calls Tryz.prog 40 #[.pointer (some ⟨bd, 0, none⟩)] w fun e w' => e = .returned (.bool false) ∧ w = w' := by
  obtain ⟨mf, ms, L, h1, _⟩ := h
  exact none_any bd m.room hr _ _ _ _ w h1

/-- A fault, and why. -/
def FaultAt (w : World) (p : Nat) (why : Int) : Prop := ∃ f, w.heap[p]? = some (.cells #[f, .iface 26 (.int .i64 why)] 102 (0, 0))
theorem FaultAt.bel {w w' : World} {p : Nat} {why : Int} (h : FaultAt w p why) (hb : Bel w w') : FaultAt w' p why := by
  obtain ⟨f, h⟩ := h
  exact ⟨f, hb.deferred h⟩
/-- A call hands back a fault. -/
def GivesFault (why : Int) (w : World) (e : Ending) (w' : World) : Prop := ∃ p, e = .returned (.iface 100 (.pointer (some ⟨p, 0, none⟩))) ∧ FaultAt w' p why ∧ Bel w w'
theorem asked_nil (file : Int) (w : World) : Calls Tryz.prog 44 #[.pointer none, .int .i64 file] w (GivesFault 1 w) := by
  go_enter Tryz.func44, Tryz.ntmps44
  go_wp2_with (go_at_call 40; refine (none_nil _).mono ?_; rintro e w' ⟨rfl, rfl⟩)
  go_ret
  exact ⟨_, rfl, ⟨_, World.alloc_heap_new w _⟩, (Bel.refl w).alloc _⟩
theorem asked_zero (file : Int) (bd : Nat) (c0 c2 c3 : Value) (T : TypeId) (w : World) (h : w.heap[bd]? = some (.cells #[c0, .int .i64 0, c2, c3] T (0, 0))) : Calls Tryz.prog 44 #[.pointer (some ⟨bd, 0, none⟩), .int .i64 file] w (GivesFault 1 w) := by
  have H := Lib.hid (none_zero bd _ _ _ _ w h)
  clear h
  go_enter Tryz.func44, Tryz.ntmps44
  go_wp2_with (go_at_call 40; refine H.out.mono ?_; rintro e w' ⟨rfl, rfl⟩)
  go_ret
  exact ⟨_, rfl, ⟨_, World.alloc_heap_new w _⟩, (Bel.refl w).alloc _⟩
theorem asked_out {w : World} {bd : Nat} {m : DM} {fp : Nat → Prop} (h : DiskIs w bd m fp) (hr : m.room ≠ 0) (file : Int) (hf : file < 0 ∨ 64 ≤ file) : Calls Tryz.prog 44 #[.pointer (some ⟨bd, 0, none⟩), .int .i64 file] w (GivesFault 4 w) := by
  have H := Lib.hid (none_disk h hr)
  clear h
  rcases hf with hf | hf
  · go_enter Tryz.func44, Tryz.ntmps44
    go_wp2_with (go_at_call 40; refine H.out.mono ?_; rintro e w' ⟨rfl, rfl⟩)
    go_ret
    exact ⟨_, rfl, ⟨_, World.alloc_heap_new w _⟩, (Bel.refl w).alloc _⟩
  · have h0 : 0 ≤ file := by omega
    go_enter Tryz.func44, Tryz.ntmps44
    go_wp2_with (go_at_call 40; refine H.out.mono ?_; rintro e w' ⟨rfl, rfl⟩)
    go_ret
    exact ⟨_, rfl, ⟨_, World.alloc_heap_new w _⟩, (Bel.refl w).alloc _⟩
theorem asked_ok {w : World} {bd : Nat} {m : DM} {fp : Nat → Prop} (h : DiskIs w bd m fp) (hr : m.room ≠ 0) (file : Int) (h0 : 0 ≤ file) (h64 : file < 64) : Calls Tryz.prog 44 #[.pointer (some ⟨bd, 0, none⟩), .int .i64 file] w fun e w' => e = .returned .nilIface ∧ w = w' := by
  have H := Lib.hid (none_disk h hr)
  clear h
  go_enter Tryz.func44, Tryz.ntmps44
  go_wp2_with (go_at_call 40; refine H.out.mono ?_; rintro e w' ⟨rfl, rfl⟩)
  go_ret
  exact ⟨rfl, rfl⟩
end Go.Proofs.YtiajggmnfaidjaaGreatDoor
