/-
  Slices of bytes in memory; slices.Clone of bytes; the disk's map of files.
-/
import Derived.Test.YtiajggmnfaidjaaGreatDoorMp
set_option linter.unusedVariables false
set_option linter.unusedSimpArgs false
set_option linter.unusedVariables false
set_option linter.unusedSimpArgs false
namespace Go.Proofs.YtiajggmnfaidjaaGreatDoor
open Go.RowKit

def bv (c : UInt8) : Value := .int .u8 c.toNat
/-- How many bytes may be in one list here. -/
def manyB : Nat := 1099511627776
def BytesAt (w : World) (v : Value) (s : List UInt8) (fp : Nat → Prop) : Prop :=
  ∃ A cap, v = .slice A s.length cap ∧ s.length ≤ cap ∧ cap ≤ maxLen ∧ (A = none → cap = 0) ∧
    (∀ a, A = some a → a.spot = none) ∧ (0 < s.length → ∃ b off cs fz, A = some ⟨b, off, none⟩ ∧ fp b ∧ w.heap[b]? = some (.cells cs 5 fz) ∧ ∀ j c, s[j]? = some c → cs[off + j]? = some (bv c))
theorem BytesAt.nil (w : World) (fp : Nat → Prop) : BytesAt w (.slice none 0 0) [] fp := ⟨none, 0, rfl, by simp, by simp, fun _ => rfl, by simp, fun h => by simp at h⟩
theorem BytesAt.kept {w w' : World} {v : Value} {s : List UInt8} {fp fp' : Nat → Prop} (h : BytesAt w v s fp) (hk : ∀ b, fp b → b < w.heap.size → w'.heap[b]? = w.heap[b]?) (hf : ∀ b, fp b → b < w.heap.size → fp' b) : BytesAt w' v s fp' := by
  obtain ⟨A, cap, h1, h2, h3, h4, h4', h5⟩ := h
  refine ⟨A, cap, h1, h2, h3, h4, h4', fun hn => ?_⟩
  obtain ⟨b, off, cs, fz, h6, h6', h7, h8⟩ := h5 hn
  have hl := (Array.getElem?_eq_some_iff.1 h7).1
  exact ⟨b, off, cs, fz, h6, hf b h6' hl, (hk _ h6' hl).trans h7, h8⟩
theorem BytesAt.bel {w w' : World} {v : Value} {s : List UInt8} {fp : Nat → Prop} (h : BytesAt w v s fp) (hb : Bel w w') : BytesAt w' v s fp := h.kept (fun b _ hl => hb.block b hl) (fun _ h _ => h)
theorem BytesAt.mono {w : World} {v : Value} {s : List UInt8} {fp fp' : Nat → Prop} (h : BytesAt w v s fp) (hf : ∀ b, fp b → b < w.heap.size → fp' b) : BytesAt w v s fp' := h.kept (fun _ _ _ => rfl) hf
theorem BytesAt.reads {w : World} {A : Option Addr} {n cap : Nat} {s : List UInt8} {fp : Nat → Prop} (h : BytesAt w (.slice A n cap) s fp) : n = s.length ∧ Reads w w.heap.size 1 A s.length (s.map bv) := by
  obtain ⟨A', cap', h1, h2, h3, h4, h4', h5⟩ := h
  simp only [Value.slice.injEq] at h1
  obtain ⟨rfl, rfl, rfl⟩ := h1
  refine ⟨rfl, by simp, fun hn => ?_⟩
  obtain ⟨b, off, cs, fz, rfl, _, h7, h8⟩ := h5 hn
  refine ⟨_, rfl, (Array.getElem?_eq_some_iff.1 h7).1, fun j u hu => ?_⟩
  rw [List.getElem?_map] at hu
  cases hs : s[j]? with
  | none => rw [hs] at hu; simp at hu
  | some c =>
    rw [hs] at hu
    simp at hu
    subst hu
    have := h8 j c hs
    have e : (Addr.add ⟨b, off, none⟩ j) = ⟨b, off + j, none⟩ := by unfold Addr.add; split <;> simp_all
    rw [e]
    simp [World.cell?, h7, this]
theorem BytesAt.of_own {w : World} {base n : Nat} {v : Value} {s : List UInt8} (h : w.ownsRow base 5 1 v n (s.map bv)) : BytesAt w v s (fun b => base ≤ b) := by
  obtain ⟨hl, h⟩ := h
  simp at hl
  rcases h with ⟨rfl, rfl⟩ | ⟨g, cap, cur, rfl, hbg, hg, h2, h3, h4, h5⟩
  · have : s = [] := List.eq_nil_of_length_eq_zero hl
    subst this
    exact BytesAt.nil w _
  · subst hl
    refine ⟨_, cap, rfl, h2, h3, (fun h => by cases h), (fun a e => by cases e; rfl), fun hn => ⟨g, 0, cur, _, rfl, hbg, hg, fun j c hj => ?_⟩⟩
    have : (s.map bv)[j]? = some (bv c) := by simp [hj]
    rw [← h5] at this
    rw [List.getElem?_take] at this
    split at this
    · simpa using this
    · simp at this
theorem BytesAt.take {w : World} {A : Option Addr} {n cap : Nat} {s : List UInt8} {fp : Nat → Prop} (h : BytesAt w (.slice A n cap) s fp) (k : Nat) (hk : k ≤ n) : BytesAt w (.slice A k k) (s.take k) fp := by
  obtain ⟨A', cap', h1, h2, h3, h4, h4', h5⟩ := h
  simp only [Value.slice.injEq] at h1
  obtain ⟨rfl, rfl, rfl⟩ := h1
  have hl : (s.take k).length = k := by simp; omega
  refine ⟨A, k, by rw [hl], by omega, by omega, fun ha => by have := h4 ha; omega, h4', fun hn => ?_⟩
  obtain ⟨b, off, cs, fz, h6, h6', h7, h8⟩ := h5 (by omega)
  exact ⟨b, off, cs, fz, h6, h6', h7, fun j c hj => h8 j c (by rw [List.getElem?_take] at hj; split at hj; exact hj; simp at hj)⟩
theorem BytesAt.len {w : World} {A : Option Addr} {n cap : Nat} {s : List UInt8} {fp : Nat → Prop} (h : BytesAt w (.slice A n cap) s fp) : n = s.length := h.reads.1

/-- A call hands back new bytes; nothing else has turned. -/
def GivesBytes (s : List UInt8) (w : World) (e : Ending) (w' : World) : Prop := ∃ v, e = .returned v ∧ BytesAt w' v s (fun b => w.heap.size ≤ b) ∧ Bel w w'
theorem infoU8 : (Tryz.prog.info? 5).map (fun i => (i.zero, i.size, i.bytes)) = some (some (.int .u8 0), 1, 1) := by kernel_rfl
theorem bv_one (s : List UInt8) : ∀ u ∈ s.map bv, u.oneCell' = true := by
  intro u hu
  obtain ⟨c, _, rfl⟩ := List.mem_map.1 hu
  rfl
theorem eqlNilB (a : Option Addr) (l c : Nat) (w : World) : (binOp .eql 43 (.slice a l c) (.slice none 0 0)).run Tryz.prog w = .ok (.bool a.isNone) w := Lib.run_eql_slice_nil w _ _ a l c 0 0 Tryz.underlying43
theorem cloneB_nil (w : World) : Calls Tryz.prog 46 #[.slice none 0 0] w (GivesBytes [] w) := by
  have hq := eqlNilB
  go_enter Tryz.func46, Tryz.ntmps46
  go_wp2
  go_ret
  exact ⟨_, rfl, BytesAt.nil _ _, Bel.refl _⟩
set_option maxRecDepth 100000 in
set_option maxHeartbeats 400000 in
theorem cloneB_some (a : Addr) (cap : Nat) (s : List UInt8) (hs : s.length ≤ manyB) (w : World) (hr : Reads w w.heap.size 1 (some a) s.length (s.map bv)) : Calls Tryz.prog 46 #[.slice (some a) s.length cap] w (GivesBytes s w) := by
  have hq := eqlNilB
  obtain ⟨i0, hi0, hz0, hz1, hz2⟩ := info_parts infoU8
  have h63 : 0 + s.length ≤ maxLen := by unfold manyB at hs; unfold maxLen; omega
  have h47 : (0 + s.length) * 1 ≤ 140737488355328 := by unfold manyB at hs; omega
  have H47 := Lib.hid h47
  have HR := Lib.hid hr
  have H63 := Lib.hid h63
  clear hr h63 h47 hs
  go_enter Tryz.func46, Tryz.ntmps46
  go_wp2_with (at_builtin; refine wpList_append_any _ rfl (.tmp 5) (.tmp 6) _ rfl w.heap.size 5 i0 _ 1 1 Tryz.underlying43 hi0 hz0 hz1 hz2 rfl (by omega) (.slice (some ⟨w.heap.size, 0, none⟩) 0 0) 0 [] rfl ?c1 w.heap.size (some a) s.length cap (s.map bv) rfl ?c2 (bv_one s) ?c3 ?c4 ?c5 ?_)
  case c1 => exact World.ownsRow_made _ #[] 0 (Nat.le_refl _) (by simp) (by simp)
  case c2 => exact HR.out.alloc (Nat.le_refl _) _
  case c3 => exact H63.out
  case c4 => exact H47.out
  case c5 => simp
  intro v1 w1 hown hg hat
  go_wp2
  go_ret
  exact ⟨v1, rfl, BytesAt.of_own (by simpa using hown), Below.grown ((Bel.refl w).alloc _) hg (by simp) (fun k e => by cases e; exact Nat.le_refl _)⟩
theorem cloneB_any (A : Option Addr) (n cap : Nat) (s : List UInt8) (hn : n = s.length) (hc : A = none → n = 0 ∧ cap = 0) (hs : s.length ≤ manyB) (w : World) (hr : Reads w w.heap.size 1 A s.length (s.map bv)) : Calls Tryz.prog 46 #[.slice A n cap] w (GivesBytes s w) := by
  subst hn
  cases A with
  | none =>
    obtain ⟨h1, rfl⟩ := hc rfl
    obtain rfl : s = [] := List.eq_nil_of_length_eq_zero h1
    exact cloneB_nil w
  | some a => exact cloneB_some a cap s hs w hr
theorem cloneB_at (v : Value) (s : List UInt8) (hs : s.length ≤ manyB) (w : World) {fp : Nat → Prop} (h : BytesAt w v s fp) : Calls Tryz.prog 46 #[v] w (GivesBytes s w) := by
  obtain ⟨A, cap, rfl, h2, h3, h4, h4', h5⟩ := id h
  exact cloneB_any A s.length cap s rfl (fun hA => by have := h4 hA; omega) hs w h.reads.2
end Go.Proofs.YtiajggmnfaidjaaGreatDoor
