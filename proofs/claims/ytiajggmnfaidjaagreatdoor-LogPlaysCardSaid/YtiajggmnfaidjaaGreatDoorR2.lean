/-
  Texts behind the statement: Rr, Rs, Rt, Ru, Rv, Rw10.
-/
import Derived.Test.YtiajggmnfaidjaaGreatDoorR1
import Derived.Test.YtiajggmnfaidjaaGreatDoorLv
import Derived.Test.YtiajggmnfaidjaaGreatDoorR3
import Derived.Test.YtiajggmnfaidjaaGreatDoorMa
import Derived.Test.YtiajggmnfaidjaaGreatDoorLx
set_option linter.unusedVariables false
set_option linter.unusedSimpArgs false
set_option linter.unusedVariables false
set_option linter.unusedSimpArgs false
namespace Go.Proofs.YtiajggmnfaidjaaGreatDoor
open Go.RowKit

section
variable {P : Program} {ops : Array Oper} {Q : Exit → Act → World → Prop} {md : Region.Mode} {S : World → Prop}
/-- A long row's load in a drawn region. -/
theorem tkl (i : Nat) {oi : Oper} (cs : Array Value) (ty : TypeId) {x : Operand} (b : Nat) {d : TypeDesc} {fuel : Nat} {listed l' : Array Bool} {a a' : Act} {w : World} (h : wpAnyH P md ops Q S fuel l' a' w)
    (hr : ∀ w, S w → w.rangeAt b 0 cs.toList) (hu : P.underlying ty = some d) (hn : (P.info? ty).map (·.size) = some cs.size) (hd : d.isRow = true := by exact rfl)
    (hi : ops[i]? = some oi := by exact rfl)
    (hs : tkB md ops listed i oi a true = true := by kernel_rfl)
    (ho : oi.op = .load ty x := by exact rfl) (hx : a.eval x = .pointer (some ⟨b, 0, none⟩) := by exact rfl)
    (hQ : ∀ c a w, Q (.panic c) (a.put oi.dst (.agg cs)) w → Q (.panic c) a w := by exact fun _ _ _ h => h)
    (hS : S w := by assumption)
    (ha : a.put oi.dst (.agg cs) = a' := by first | (simp only [tkp0, tkp1, tkp2, tkp3, tkp4, tkp5, tkp6, tkp7]; exact rfl) | exact rfl)
    (hl : listed.setIfInBounds i true = l' := by first | (simp only [tkp5, tkp6, tkp7]; exact rfl) | exact rfl) : wpAnyH P md ops Q S (fuel + 1) listed a w := by
  subst ha hl
  unfold tkB at hs
  simp only [Bool.and_eq_true, beq_iff_eq] at hs
  have hy := yieldsIf_load_mid (P := P) (ops := ops) (S := S) (op := oi) (a := a) hs.2.2.2 ty x ho b 0 hx cs.toList d hr hu hd (by simpa using hn)
  rw [show cs.toList.toArray = cs by simp] at hy
  exact wpAnyH_take hi hs.1 hs.2.1 hs.2.2.1 hQ hy hS h
end
/-- The list of the document's loose things lies apart. -/
def Away (cs : Array Value) (m : DM) (fb : Nat → Prop) : Prop := 0 < m.loose.length → ∀ g off n c, cs[65]? = some (.slice (some ⟨g, off, none⟩) n c) → ¬ fb g
theorem RLog.cell {w : World} {cs : Array Value} {m : DM} {file tn : Int} (h : RLog w cs m file tn) : ∃ A cap, cs[65]? = some (.slice A m.loose.length cap) ∧ RThs w A m.loose := by
  obtain ⟨ds, ⟨A, cap, hc, hr⟩, rfl⟩ := h
  exact ⟨A, cap, by rw [Array.getElem?_append_left (by rw [hc.size]; omega)]; exact hc.loose, hr⟩
theorem RLog.lt_list {w : World} {cs : Array Value} {m : DM} {file tn : Int} (h : RLog w cs m file tn) (hn : 0 < m.loose.length) {g off n c : Nat} (e : cs[65]? = some (.slice (some ⟨g, off, none⟩) n c)) : g < w.heap.size := by
  obtain ⟨A, cap, h1, h2⟩ := h.cell
  obtain ⟨g', off', rfl, hg, -⟩ := h2 hn
  rw [e] at h1
  simp only [Option.some.injEq, Value.slice.injEq, Addr.mk.injEq] at h1
  omega
theorem RLog.opp {w w' : World} {cs : Array Value} {m : DM} {file tn : Int} {fb fb' : Nat → Prop} (h : RLog w cs m file tn) (ha : Away cs m fb) (hO : Opp fb fb' w w') : RLog w' cs m file tn := by
  obtain ⟨A', cap', e1, e2⟩ := h.cell
  obtain ⟨ds, ⟨A, cap, hc, hr⟩, rfl⟩ := h
  refine ⟨ds, ⟨A, cap, hc, fun hn => ?_⟩, rfl⟩
  obtain ⟨g, off, rfl, hg, hcell⟩ := hr hn
  have hnf := ha hn g off _ _ (by rw [Array.getElem?_append_left (by rw [hc.size]; omega)]; exact hc.loose)
  exact ⟨g, off, rfl, Nat.lt_of_lt_of_le hg hO.size, fun j u hu => (World.cell?_of_block (a := ⟨g, off + j, none⟩) (hO.block g hg hnf)).trans (hcell j u hu)⟩
theorem Away.opp {w w' : World} {cs : Array Value} {m : DM} {file tn : Int} {fb fb' : Nat → Prop} (ha : Away cs m fb) (h : RLog w cs m file tn) (hO : Opp fb fb' w w') : Away cs m fb' := fun hn g off n c e hf =>
  (hO.sub g hf).elim (ha hn g off n c e) (fun hge => by have := h.lt_list hn e; omega)
theorem Away.fresh {w w' w0 : World} {cs0 cs : Array Value} {m0 m : DM} {file tn file' tn' : Int} {fb : Nat → Prop} (ha : Away cs0 m0 fb) (h0 : RLog w0 cs0 m0 file tn) (h : RLog w' cs m file' tn') (hf : FreshR w cs0 cs) (hfb : ∀ b, fb b → b < w.heap.size) : Away cs m fb := fun hn g off n c e hfg => by
  rcases hf with hf | ⟨g', off', n', c', e', hg⟩
  · rw [e] at hf
    obtain ⟨A0, cap0, e0, -⟩ := h0.cell
    obtain ⟨A1, cap1, e1, -⟩ := h.cell
    rw [e] at e1
    rw [← hf] at e0
    simp only [Option.some.injEq, Value.slice.injEq] at e0 e1
    exact ha (by omega) g off n c hf.symm hfg
  · rw [e] at e'
    simp only [Option.some.injEq, Value.slice.injEq, Addr.mk.injEq] at e'
    have := hfb g hfg
    omega
/-- A call's own three blocks: the document's log, the call, the result. -/
structure ActW (w V : World) (cs : Array Value) (c0 c1 c2 c3 : Value) : Prop where
  row : V.heap[w.heap.size]? = some (.cells cs 38 (0, 0))
  arg : V.heap[w.heap.size + 1]? = some (.cells #[c0, c1, c2, c3] 45 (0, 0))
  res : V.heap[w.heap.size + 1 + 1]? = some (.cells Tryz.zeroCells38 38 (0, 0))
  size : w.heap.size + 3 ≤ V.heap.size
theorem ActW.start (w : World) (cs : Array Value) (c0 c1 c2 c3 : Value) : ActW w (((w.alloc (.cells cs 38)).alloc (.cells #[c0, c1, c2, c3] 45)).alloc (.cells Tryz.zeroCells38 38)) cs c0 c1 c2 c3 := by
  have h1 : Bel (w.alloc (.cells cs 38)) ((w.alloc (.cells cs 38)).alloc (.cells #[c0, c1, c2, c3] 45)) := (Bel.refl _).alloc _
  have h2 : Bel ((w.alloc (.cells cs 38)).alloc (.cells #[c0, c1, c2, c3] 45)) (((w.alloc (.cells cs 38)).alloc (.cells #[c0, c1, c2, c3] 45)).alloc (.cells Tryz.zeroCells38 38)) := (Bel.refl _).alloc _
  have e1 := World.alloc_heap_new (w.alloc (.cells cs 38)) (.cells #[c0, c1, c2, c3] 45)
  have e2 := World.alloc_heap_new ((w.alloc (.cells cs 38)).alloc (.cells #[c0, c1, c2, c3] 45)) (.cells Tryz.zeroCells38 38)
  simp only [World.size_alloc] at e1 e2
  exact ⟨(h1.then_ h2).deferred (World.alloc_heap_new w _), h2.deferred e1, e2, by simp⟩
section
variable {w V V' : World} {cs : Array Value} {c0 c1 c2 c3 : Value}
theorem ActW.bel (h : ActW w V cs c0 c1 c2 c3) (hb : Bel V V') : ActW w V' cs c0 c1 c2 c3 := ⟨hb.deferred h.row, hb.deferred h.arg, hb.deferred h.res, Nat.le_trans h.size hb.size⟩
theorem ActW.opp (h : ActW w V cs c0 c1 c2 c3) {fb fb' : Nat → Prop} (hfb : ∀ b, fb b → b < w.heap.size) (hO : Opp fb fb' V V') : ActW w V' cs c0 c1 c2 c3 := by
  have hs := h.size
  have hk : ∀ k, w.heap.size ≤ k → k < V.heap.size → V'.heap[k]? = V.heap[k]? := fun k h1 h2 => hO.block k h2 (fun hf => by have := hfb k hf; omega)
  exact ⟨(hk _ (by omega) (by omega)).trans h.row, (hk _ (by omega) (by omega)).trans h.arg, (hk _ (by omega) (by omega)).trans h.res, Nat.le_trans hs hO.size⟩
theorem ActW.cells (h : ActW w V cs c0 c1 c2 c3) : V.cell? ⟨w.heap.size + 1, 0, none⟩ = some c0 ∧ V.cell? ⟨w.heap.size + 1, 1, none⟩ = some c1 ∧ V.cell? ⟨w.heap.size + 1, 2, none⟩ = some c2 ∧ V.cell? ⟨w.heap.size + 1, 3, none⟩ = some c3 :=
  ⟨by rw [Blk.cell h.arg]; rfl, by rw [Blk.cell h.arg]; rfl, by rw [Blk.cell h.arg]; rfl, by rw [Blk.cell h.arg]; rfl⟩
end
theorem results_act {fn : Func} {p q r : Tmp} (h : fn.results = #[.tmp p, .cell q 38, .tmp r]) (tmps : Array Value) (w : World) (g : Nat) (cs : Array Value) (k l : Value) (hq : tmps.getD q undef = .pointer (some ⟨g, 0, none⟩)) (hp : tmps.getD p undef = k) (hr : tmps.getD r undef = l)
    (hg : w.heap[g]? = some (.cells cs 38 (0, 0))) (hi : (Tryz.prog.info? 38).map (·.size) = some cs.size) : (results fn tmps).run Tryz.prog w = .ok (.tuple #[k, .agg cs, l]) w := by
  have hp' : tmps[q]?.getD undef = .pointer (some ⟨g, 0, none⟩) := by simpa using hq
  have hq' : tmps[p]?.getD undef = k := by simpa using hp
  have hr' : tmps[r]?.getD undef = l := by simpa using hr
  simp [results, h, hp', hq', hr', asAddr, run_loadVar_row (P := Tryz.prog) w g 38 38 cs (0, 0) _ hg Tryz.underlying38 rfl hi]
/-- What a call hands back: it is as the document's, and so it stands on. -/
def GivesAct10 (bl bd : Nat) (file : Int) (k : Nat) (fd : Nat → Prop) (w : World) (e : Ending) (w' : World) : Prop :=
  ∃ bl' m' xs' tn' fd' cs', e = .returned (.tuple #[.pointer (some ⟨bl', 0, none⟩), .agg cs', .bool true]) ∧ LogIs w' bl' bd m' file (recsN xs').length tn' fd' ∧ RLog w' cs' m' file tn' ∧ Away cs' m' (fun b => fd' b ∨ b = bl') ∧ Stands m' file xs' k ∧ Opp (fun b => fd b ∨ b = bl) (fun b => fd' b ∨ b = bl') w w'
/-- The row is stored where the result lies. -/
theorem Opp.setRow {fb fb' : Nat → Prop} {w V : World} (h : Opp fb fb' w V) {b : Nat} (hb : w.heap.size ≤ b) (cs : Array Value) : Opp fb fb' w (V.setRow b cs) := by
  obtain ⟨k1, k2⟩ := setRow_else V b cs
  exact ⟨h.os, h.tape, h.output, by rw [k2]; exact h.size, fun k hk hn => (k1 k (by omega)).trans (h.block k hk hn), h.sub⟩
theorem Opp.setCells {fb fb' : Nat → Prop} {w V : World} (h : Opp fb fb' w V) {b : Nat} (hb : w.heap.size ≤ b) (vs : List Value) : Opp fb fb' w (V.setCells b 0 vs) := by
  obtain ⟨k1, k2⟩ := setCells_else b vs 0 V
  have h3 := below_setCells (B := V.heap.size) (w0 := V) (b := b)
  refine ⟨?_, ?_, ?_, by rw [k2]; exact h.size, fun k hk hn => (k1 k (by omega)).trans (h.block k hk hn), h.sub⟩
  all_goals
    have h4 := below_setCells (B := b) (w0 := V) (Nat.le_refl b) vs 0 V (Below.refl _ _)
  · exact h4.os.trans h.os
  · exact h4.tape.trans h.tape
  · exact h4.output.trans h.output
end Go.Proofs.YtiajggmnfaidjaaGreatDoor
set_option linter.unusedVariables false
set_option linter.unusedSimpArgs false
set_option linter.unusedVariables false
set_option linter.unusedSimpArgs false
namespace Go.Proofs.YtiajggmnfaidjaaGreatDoor
open Go.RowKit

theorem Stands.mono {m : DM} {file : Int} {xs : List (List UInt8)} {k l : Nat} (h : Stands m file xs k) (hkl : k ≤ l) : Stands m file xs l := ⟨h.fit, h.lo, h.hi, Nat.le_trans h.few hkl, h.small, h.is⟩
theorem LogIs.setRow {w : World} {bl bd : Nat} {m : DM} {file en tn : Int} {fd : Nat → Prop} (h : LogIs w bl bd m file en tn fd) {b : Nat} (hb : ¬ (fd b ∨ b = bl)) (cs : Array Value) : LogIs (w.setRow b cs) bl bd m file en tn fd := by
  obtain ⟨k1, k2⟩ := setRow_else w b cs
  exact ⟨(k1 bl (fun e => hb (.inr e.symm))).trans h.blk, h.nfd, fun c hc => by rw [k2]; exact h.tight c hc, h.disk.kept (fun c hc _ => k1 c (fun e => hb (.inl (e ▸ hc))))⟩
/-- What a drawn region at a call's end holds on to: the row that is loaded, and where it is stored. -/
structure Act8 (B2 B3 : Nat) (cs1 : Array Value) (V : World) : Prop where
  src : V.heap[B3]? = some (.cells cs1 38 (0, 0))
  dst : ∃ old, V.heap[B2]? = some (.cells old 38 (0, 0)) ∧ old.size = cs1.size
theorem Act8.range {B2 B3 : Nat} {cs1 : Array Value} {V : World} (h : Act8 B2 B3 cs1 V) : V.rangeAt B3 0 cs1.toList := fun j v hv => by
  rw [Nat.zero_add, Blk.cell h.src j]
  simpa using hv
theorem Act8.put {B2 B3 : Nat} {cs1 : Array Value} {V : World} (h : Act8 B2 B3 cs1 V) (hne : B3 ≠ B2) : Act8 B2 B3 cs1 (V.setRow B2 cs1) := by
  obtain ⟨old, ho, hz⟩ := h.dst
  exact ⟨(setRow_other _ _ _ _ hne).trans h.src, cs1, setRow_heap _ _ _ _ _ _ ho, rfl⟩
theorem act10_done {w W2 w3 V : World} {bl bd bl3 : Nat} {M : DM} {file en3 tn3 : Int} {fd fd3 : Nat → Prop} {cs1 : Array Value} {xs' : List (List UInt8)} {k : Nat}
    (hB : Bel w W2) (hO : Opp (fun b => fd b ∨ b = bl) (fun b => fd3 b ∨ b = bl3) W2 w3) (hl : LogIs w3 bl3 bd M file en3 tn3 fd3) (hen : en3 = (recsN xs').length)
    (hr : RLog W2 cs1 M file tn3) (ha : Away cs1 M (fun b => fd b ∨ b = bl)) (hst : Stands M file xs' k) (hfb : ∀ b, (fd b ∨ b = bl) → b < w.heap.size) (hs : w.heap.size + 3 ≤ W2.heap.size)
    (hz : w3.heap[w.heap.size + 1 + 1]? = some (.cells Tryz.zeroCells38 38 (0, 0))) (hV : Bel w3 V) :
    GivesAct10 bl bd file k fd w (.returned (.tuple #[.pointer (some ⟨bl3, 0, none⟩), .agg cs1, .bool true])) (V.setRow (w.heap.size + 1 + 1) cs1) := by
  subst hen
  have hr3 := hr.opp ha hO
  have hnb : ¬ (fd3 (w.heap.size + 1 + 1) ∨ w.heap.size + 1 + 1 = bl3) := fun hf => (hO.sub _ hf).elim (fun h => by have := hfb _ h; omega) (fun h => by omega)
  exact ⟨bl3, M, xs', tn3, fd3, cs1, rfl, (hl.bel hV).setRow hnb cs1, (hr3.bel hV).stored (hV.deferred hz) cs1, ha.opp hr hO, hst, (((Opp.of_bel hB).trans hO).trans (Opp.of_bel hV)).setRow (by omega) cs1⟩
set_option maxRecDepth 100000 in
set_option maxHeartbeats 4000000 in
theorem act10_append_ok {w : World} {bl bd : Nat} {m : DM} {file tn : Int} {fd : Nat → Prop} {cs : Array Value} {xs : List (List UInt8)} {k : Nat} (hL : LogIs w bl bd m file (recsN xs).length tn fd) (hR : RLog w cs m file tn) (hA : Away cs m (fun b => fd b ∨ b = bl)) (hst : Stands m file xs k) (hk : k < 100000) (hg : ErrType w) (hn0 : ¬ (fd 0 ∨ 0 = bl)) (what keep torn : Int) (Ab : Option Addr) (cb : Nat) (s : List UInt8) (hs : s.length ≤ 60) (hrd : Reads w w.heap.size 1 Ab s.length (s.map bv)) (hw : what = 0 ∨ what = 1 ∨ what = 2 ∨ what = 3)
    (hok : (m.append file (recN s)).2 = 0 ∧ Stands (m.append file (recN s)).1 file (xs ++ [s]) (k + 1)) : Calls Tryz.prog 11 #[.pointer (some ⟨bl, 0, none⟩), .pointer (some ⟨bd, 0, none⟩), .agg cs, .agg #[.int .i64 what, .int .i64 keep, .int .i64 torn, .slice Ab s.length cb]] w (GivesAct10 bl bd file (k + 2) fd w) := by
  have HSZ := Lib.hid hR.info
  have HL := Lib.hid hL
  have HR := Lib.hid hR
  have hlt : bl < w.heap.size := (Array.getElem?_eq_some_iff.1 hL.blk).1
  have HFB : Hid (∀ b, (fd b ∨ b = bl) → b < w.heap.size) := fun b hb => hb.elim (hL.tight b) (fun h => by omega)
  have HW0 := Lib.hid (ActW.start w cs (.int .i64 what) (.int .i64 keep) (.int .i64 torn) (.slice Ab s.length cb))
  have hbl0 : Bel w (((w.alloc (.cells cs 38)).alloc (.cells #[.int .i64 what, .int .i64 keep, .int .i64 torn, .slice Ab s.length cb] 45)).alloc (.cells Tryz.zeroCells38 38)) := (((Bel.refl w).alloc _).alloc _).alloc _
  have HB0 := Lib.hid hbl0
  have hcv := conv_reads (w := (((w.alloc (.cells cs 38)).alloc (.cells #[.int .i64 what, .int .i64 keep, .int .i64 torn, .slice Ab s.length cb] 45)).alloc (.cells Tryz.zeroCells38 38))) cb (hrd.belHeap hbl0)
  unfold strV at hcv
  have HRD := Lib.hid hrd
  have HAP := Lib.hid (r10Append_ok (hR.bel hbl0) hst.fit (by have := hst.few; omega) hst.lo hst.hi s (by omega) hok.1)
  have his : ((m.files file).length : Int) = (recsN xs).length := by rw [hst.is]
  rw [his] at HAP
  have HENN : Hid (((recsN xs).length : Int) + (s.length + 8 : Nat) = (recsN (xs ++ [s])).length) := by show _ = _; rw [recs_snoc]; omega
  have HST := Lib.hid hst
  have HG := Lib.hid hg
  have HA := Lib.hid hA
  have HOK := Lib.hid hok
  have HN0 := Lib.hid hn0
  have hen0 : (0 : Int) ≤ (recsN xs).length := by omega
  have henI : ((recsN xs).length : Int) ≤ 1000000000 := by have := hst.len; omega
  have HEN := Lib.hid (And.intro hen0 henI)
  have HIS := Lib.hid his
  clear hL hR hA hst hg hbl0 hrd hok hn0 his hen0
  rcases hw with rfl | rfl | rfl | rfl
  all_goals
    go_enter Tryz.func11, Tryz.ntmps11
    go_wp2_with (first
      | (refine wpList_load_row rfl 38 (.tmp 6) rfl w.heap.size rfl _ cs (0, 0) _ HW0.out.row Tryz.underlying38 rfl HSZ.out ?_)
      | (go_at_call 26; refine HAP.out.mono ?_; rintro e w1 ⟨cs1, rfl, hr1, hb1, hfr1⟩
         have HI1 := Lib.hid hr1.info
         have HZ1 := Lib.hid hr1.zsize
         have HO1 := Lib.hid hr1.one
         have HF1 := Lib.hid hfr1
         have HR1 := Lib.hid hr1
         have HB1 := Lib.hid (HB0.out.then_ hb1)
         have HB01 := Lib.hid hb1.size
         have HW1 := Lib.hid (HW0.out.bel hb1)
         clear hr1 hb1 hfr1)
      | (refine wpList_store_row rfl 38 (.tmp 11) (.tmp 40) rfl w1.heap.size cs1 rfl rfl _ _ (World.alloc_heap_new _ _) HI1.out HZ1.out HO1.out ?_
         rw [World.setRow_alloc_new]
         obtain ⟨W2, hW2⟩ : ∃ W2, W2 = w1.alloc (.cells cs1 38) := ⟨_, rfl⟩
         rw [← hW2]
         have hb2 : Bel w1 W2 := by rw [hW2]; exact (Bel.refl w1).alloc _
         have HB2 := Lib.hid (HB1.out.then_ hb2)
         have hw2 := HW1.out.bel hb2
         have HW2 := Lib.hid hw2
         have HR2 := Lib.hid (HR1.out.bel hb2)
         have HS2 : Hid (W2.heap.size = w1.heap.size + 1) := by show _ = _; rw [hW2]; simp
         have HE2 : Hid (W2.heap[w1.heap.size]? = some (.cells cs1 38 (0, 0))) := by show _ = _; rw [hW2]; exact World.alloc_heap_new _ _
         obtain ⟨a0, a1, a2, a3⟩ := hw2.cells
         have HLA := Lib.hid (lAppend_ok (HL.out.bel HB2.out) HST.out.fit' (HG.out.bel HB2.out) HEN.out.1 HEN.out.2 s Ab cb (by omega) (HRD.out.belHeap HB2.out) HOK.out.1)
         clear hb2 hw2 hW2)
      | (go_at_call 14; refine HLA.out.mono ?_; rintro e w3 ⟨rfl, fd3, hl3, hO3⟩
         have HL3 := Lib.hid hl3
         have HO3 := Lib.hid hO3
         have HW3 := Lib.hid (HW2.out.opp HFB.out hO3)
         have HE3 : Hid (w3.heap[w1.heap.size]? = some (.cells cs1 38 (0, 0))) := (hO3.block _ (by have := HS2.out; omega) (fun hf => by have h1 := HFB.out _ hf; have h2 := HW1.out.size; omega)).trans HE2.out
         clear hl3 hO3 a0 a1 a2 a3))
    have hS0 : Act8 (w.heap.size + 1 + 1) w1.heap.size cs1 w3.drew := ⟨HE3.out, _, HW3.out.res, HZ1.out⟩
    have HNE : Hid (w1.heap.size ≠ w.heap.size + 1 + 1) := by show _ ≠ _; have h1 := HW1.out.size; omega
    refine wp_region_noPanic ?_
    refine wp_region_held_drew (S := (Act8 (w.heap.size + 1 + 1) w1.heap.size cs1)) (by kernel_rfl) ?_ (fun hHr1_0 => ?_)
    · (try dsimp only); (first | exact hS0 | assumption | exact Act8.put (by assumption) HNE.out)
    refine tk 0 ?_
    refine tkl 1 cs1 38 w1.heap.size ?_ (fun V h => h.range) Tryz.underlying38 HI1.out
    refine tk 2 ?_
    refine tk 3 ?_
    refine tk 4 ?_
    refine tk 5 ?_
    refine tk 6 ?_
    refine tk 8 ?_
    refine rd1 7 (fun K hK => ?_)
    go_simp
    (go_at_call 8; refine (num10_any _ _).mono ?_; rintro e w' ⟨rfl, rfl⟩)
    try (go_wp2_with fail)
    refine hK.out _ _ ?_ (fun hHr1_1 => ?_)
    · (try dsimp only); (first | exact hS0 | assumption | exact Act8.put (by assumption) HNE.out)
    clear hK K hHr1_0
    try simp only [tkp0, tkp1, tkp2, tkp3, tkp4, tkp5, tkp6, tkp7]
    refine tk 9 ?_
    refine tk 10 ?_
    refine rd1 11 (fun K hK => ?_)
    go_simp
    refine hK.out _ _ ?_ (fun hHr1_2 => ?_)
    · (try dsimp only); (first | exact hS0 | assumption | exact Act8.put (by assumption) HNE.out)
    clear hK K hHr1_1
    try simp only [tkp0, tkp1, tkp2, tkp3, tkp4, tkp5, tkp6, tkp7]
    refine rd1 12 (fun K hK => ?_)
    rw [if_pos (by first | rfl | kernel_rfl)]
    obtain ⟨old8, ho8, hz8⟩ := Act8.dst (by assumption : Act8 (w.heap.size + 1 + 1) w1.heap.size cs1 _); refine wp_store_row _ _ _ rfl _ cs1 rfl rfl _ old8 ho8 HI1.out hz8 HO1.out ?_
    refine hK.out _ _ ?_ (fun hHr1_3 => ?_)
    · (try dsimp only); (first | exact hS0 | assumption | exact Act8.put (by assumption) HNE.out)
    clear hK K hHr1_2
    try simp only [tkp0, tkp1, tkp2, tkp3, tkp4, tkp5, tkp6, tkp7]
    refine rd1 13 (fun K hK => ?_)
    go_simp
    refine hK.out _ _ ?_ (fun hHr1_4 => ?_)
    · (try dsimp only); (first | exact hS0 | assumption | exact Act8.put (by assumption) HNE.out)
    clear hK K hHr1_3
    try simp only [tkp0, tkp1, tkp2, tkp3, tkp4, tkp5, tkp6, tkp7]
    refine wpAnyH_done (by kernel_rfl) ?_ _
    refine NoPanic.normal ?_
    go_wp2
    have ha2 := HA.out.fresh HR.out HR1.out HF1.out (fun b hb => Nat.lt_of_lt_of_le (HFB.out b hb) HB0.out.size)
    exact bodyPost_ret (v := .tuple #[.pointer (some ⟨bl, 0, none⟩), .agg cs1, .bool true]) (results_act rfl _ _ (w.heap.size + 1 + 1) cs1 _ _ rfl rfl rfl (setRow_heap _ _ _ _ _ _ HW3.out.res) HI1.out) rfl (act10_done HB2.out HO3.out HL3.out HENN.out HR2.out ha2 (HOK.out.2.mono (by omega)) HFB.out HW2.out.size HW3.out.res ((Bel.refl _).drew))
set_option maxRecDepth 100000 in
set_option maxHeartbeats 4000000 in
theorem act10_append_full {w : World} {bl bd : Nat} {m : DM} {file tn : Int} {fd : Nat → Prop} {cs : Array Value} {xs : List (List UInt8)} {k : Nat} (hL : LogIs w bl bd m file (recsN xs).length tn fd) (hR : RLog w cs m file tn) (hA : Away cs m (fun b => fd b ∨ b = bl)) (hst : Stands m file xs k) (hk : k < 100000) (hg : ErrType w) (hn0 : ¬ (fd 0 ∨ 0 = bl)) (what keep torn : Int) (Ab : Option Addr) (cb : Nat) (s : List UInt8) (hs : s.length ≤ 60) (hrd : Reads w w.heap.size 1 Ab s.length (s.map bv)) (hw : what = 0 ∨ what = 1 ∨ what = 2 ∨ what = 3)
    (hok : m.append file (recN s) = (m, 190)) : Calls Tryz.prog 11 #[.pointer (some ⟨bl, 0, none⟩), .pointer (some ⟨bd, 0, none⟩), .agg cs, .agg #[.int .i64 what, .int .i64 keep, .int .i64 torn, .slice Ab s.length cb]] w (GivesAct10 bl bd file (k + 2) fd w) := by
  have HSZ := Lib.hid hR.info
  have HL := Lib.hid hL
  have HR := Lib.hid hR
  have hlt : bl < w.heap.size := (Array.getElem?_eq_some_iff.1 hL.blk).1
  have HFB : Hid (∀ b, (fd b ∨ b = bl) → b < w.heap.size) := fun b hb => hb.elim (hL.tight b) (fun h => by omega)
  have HW0 := Lib.hid (ActW.start w cs (.int .i64 what) (.int .i64 keep) (.int .i64 torn) (.slice Ab s.length cb))
  have hbl0 : Bel w (((w.alloc (.cells cs 38)).alloc (.cells #[.int .i64 what, .int .i64 keep, .int .i64 torn, .slice Ab s.length cb] 45)).alloc (.cells Tryz.zeroCells38 38)) := (((Bel.refl w).alloc _).alloc _).alloc _
  have HB0 := Lib.hid hbl0
  have hcv := conv_reads (w := (((w.alloc (.cells cs 38)).alloc (.cells #[.int .i64 what, .int .i64 keep, .int .i64 torn, .slice Ab s.length cb] 45)).alloc (.cells Tryz.zeroCells38 38))) cb (hrd.belHeap hbl0)
  unfold strV at hcv
  have HRD := Lib.hid hrd
  have HAP := Lib.hid (r10Append_full (hR.bel hbl0) hst.fit (by have := hst.few; omega) hst.lo hst.hi s (by omega) hok)
  have his : ((m.files file).length : Int) = (recsN xs).length := by rw [hst.is]
  skip
  have HST := Lib.hid hst
  have HG := Lib.hid hg
  have HA := Lib.hid hA
  have HOK := Lib.hid hok
  have HN0 := Lib.hid hn0
  have hen0 : (0 : Int) ≤ (recsN xs).length := by omega
  have henI : ((recsN xs).length : Int) ≤ 1000000000 := by have := hst.len; omega
  have HEN := Lib.hid (And.intro hen0 henI)
  have HIS := Lib.hid his
  clear hL hR hA hst hg hbl0 hrd hok hn0 his hen0
  rcases hw with rfl | rfl | rfl | rfl
  all_goals
    go_enter Tryz.func11, Tryz.ntmps11
    go_wp2_with (first
      | (refine wpList_load_row rfl 38 (.tmp 6) rfl w.heap.size rfl _ cs (0, 0) _ HW0.out.row Tryz.underlying38 rfl HSZ.out ?_)
      | (go_at_call 26; refine HAP.out.mono ?_; rintro e w1 ⟨cs1, rfl, hr1, hb1, hfr1⟩
         have HI1 := Lib.hid hr1.info
         have HZ1 := Lib.hid hr1.zsize
         have HO1 := Lib.hid hr1.one
         have HF1 := Lib.hid hfr1
         have HR1 := Lib.hid hr1
         have HB1 := Lib.hid (HB0.out.then_ hb1)
         have HB01 := Lib.hid hb1.size
         have HW1 := Lib.hid (HW0.out.bel hb1)
         clear hr1 hb1 hfr1)
      | (refine wpList_store_row rfl 38 (.tmp 11) (.tmp 40) rfl w1.heap.size cs1 rfl rfl _ _ (World.alloc_heap_new _ _) HI1.out HZ1.out HO1.out ?_
         rw [World.setRow_alloc_new]
         obtain ⟨W2, hW2⟩ : ∃ W2, W2 = w1.alloc (.cells cs1 38) := ⟨_, rfl⟩
         rw [← hW2]
         have hb2 : Bel w1 W2 := by rw [hW2]; exact (Bel.refl w1).alloc _
         have HB2 := Lib.hid (HB1.out.then_ hb2)
         have hw2 := HW1.out.bel hb2
         have HW2 := Lib.hid hw2
         have HR2 := Lib.hid (HR1.out.bel hb2)
         have HS2 : Hid (W2.heap.size = w1.heap.size + 1) := by show _ = _; rw [hW2]; simp
         have HE2 : Hid (W2.heap[w1.heap.size]? = some (.cells cs1 38 (0, 0))) := by show _ = _; rw [hW2]; exact World.alloc_heap_new _ _
         obtain ⟨a0, a1, a2, a3⟩ := hw2.cells
         have HLA := Lib.hid (lAppend_full (HL.out.bel HB2.out) HST.out.fit' (HG.out.bel HB2.out) HN0.out s Ab cb (by omega) (HRD.out.belHeap HB2.out) HOK.out)
         clear hb2 hw2 hW2)
      | (go_at_call 14; refine HLA.out.mono ?_; rintro e w3 ⟨rfl, fd3, hl3, hO3⟩
         have HL3 := Lib.hid hl3
         have HO3 := Lib.hid hO3
         have HW3 := Lib.hid (HW2.out.opp HFB.out hO3)
         have HE3 : Hid (w3.heap[w1.heap.size]? = some (.cells cs1 38 (0, 0))) := (hO3.block _ (by have := HS2.out; omega) (fun hf => by have h1 := HFB.out _ hf; have h2 := HW1.out.size; omega)).trans HE2.out
         clear hl3 hO3 a0 a1 a2 a3))
    have hS0 : Act8 (w.heap.size + 1 + 1) w1.heap.size cs1 w3.drew := ⟨HE3.out, _, HW3.out.res, HZ1.out⟩
    have HNE : Hid (w1.heap.size ≠ w.heap.size + 1 + 1) := by show _ ≠ _; have h1 := HW1.out.size; omega
    refine wp_region_noPanic ?_
    refine wp_region_held_drew (S := (Act8 (w.heap.size + 1 + 1) w1.heap.size cs1)) (by kernel_rfl) ?_ (fun hHr2_0 => ?_)
    · (try dsimp only); (first | exact hS0 | assumption | exact Act8.put (by assumption) HNE.out)
    refine tk 0 ?_
    refine tkl 1 cs1 38 w1.heap.size ?_ (fun V h => h.range) Tryz.underlying38 HI1.out
    refine tk 2 ?_
    refine tk 3 ?_
    refine tk 4 ?_
    refine tk 5 ?_
    refine tk 6 ?_
    refine tk 8 ?_
    refine rd1 7 (fun K hK => ?_)
    go_simp
    (go_at_call 8; refine (num10_any _ _).mono ?_; rintro e w' ⟨rfl, rfl⟩)
    try (go_wp2_with fail)
    refine hK.out _ _ ?_ (fun hHr2_1 => ?_)
    · (try dsimp only); (first | exact hS0 | assumption | exact Act8.put (by assumption) HNE.out)
    clear hK K hHr2_0
    try simp only [tkp0, tkp1, tkp2, tkp3, tkp4, tkp5, tkp6, tkp7]
    refine tk 9 ?_
    refine tk 10 ?_
    refine rd1 11 (fun K hK => ?_)
    go_simp
    refine hK.out _ _ ?_ (fun hHr2_2 => ?_)
    · (try dsimp only); (first | exact hS0 | assumption | exact Act8.put (by assumption) HNE.out)
    clear hK K hHr2_1
    try simp only [tkp0, tkp1, tkp2, tkp3, tkp4, tkp5, tkp6, tkp7]
    refine rd1 12 (fun K hK => ?_)
    rw [if_pos (by first | rfl | kernel_rfl)]
    obtain ⟨old8, ho8, hz8⟩ := Act8.dst (by assumption : Act8 (w.heap.size + 1 + 1) w1.heap.size cs1 _); refine wp_store_row _ _ _ rfl _ cs1 rfl rfl _ old8 ho8 HI1.out hz8 HO1.out ?_
    refine hK.out _ _ ?_ (fun hHr2_3 => ?_)
    · (try dsimp only); (first | exact hS0 | assumption | exact Act8.put (by assumption) HNE.out)
    clear hK K hHr2_2
    try simp only [tkp0, tkp1, tkp2, tkp3, tkp4, tkp5, tkp6, tkp7]
    refine rd1 13 (fun K hK => ?_)
    go_simp
    refine hK.out _ _ ?_ (fun hHr2_4 => ?_)
    · (try dsimp only); (first | exact hS0 | assumption | exact Act8.put (by assumption) HNE.out)
    clear hK K hHr2_3
    try simp only [tkp0, tkp1, tkp2, tkp3, tkp4, tkp5, tkp6, tkp7]
    refine wpAnyH_done (by kernel_rfl) ?_ _
    refine NoPanic.normal ?_
    go_wp2
    have ha2 := HA.out.fresh HR.out HR1.out HF1.out (fun b hb => Nat.lt_of_lt_of_le (HFB.out b hb) HB0.out.size)
    exact bodyPost_ret (v := .tuple #[.pointer (some ⟨bl, 0, none⟩), .agg cs1, .bool true]) (results_act rfl _ _ (w.heap.size + 1 + 1) cs1 _ _ rfl rfl rfl (setRow_heap _ _ _ _ _ _ HW3.out.res) HI1.out) rfl (act10_done HB2.out HO3.out HL3.out rfl HR2.out ha2 (HST.out.mono (by omega)) HFB.out HW2.out.size HW3.out.res ((Bel.refl _).drew))
end Go.Proofs.YtiajggmnfaidjaaGreatDoor
set_option linter.unusedVariables false
set_option linter.unusedSimpArgs false
set_option linter.unusedVariables false
set_option linter.unusedSimpArgs false
namespace Go.Proofs.YtiajggmnfaidjaaGreatDoor
open Go.RowKit

/-- Where a disk's list of loose things lies. -/
def LThs (w : World) (cs : Array Value) (m : DM) : Prop := ∃ A cap, cs[65]? = some (.slice A m.loose.length cap) ∧ RThs w A m.loose
theorem RDis.cell {w : World} {ds : Array Value} {m : DM} (h : RDis w ds m) : LThs w ds m := by
  obtain ⟨A, cap, hc, hr⟩ := h
  exact ⟨A, cap, hc.loose, hr⟩
theorem LThs.lt {w : World} {cs : Array Value} {m : DM} (h : LThs w cs m) (hn : 0 < m.loose.length) {g off n c : Nat} (e : cs[65]? = some (.slice (some ⟨g, off, none⟩) n c)) : g < w.heap.size := by
  obtain ⟨A, cap, h1, h2⟩ := h
  obtain ⟨g', off', rfl, hg, -⟩ := h2 hn
  rw [e] at h1
  simp only [Option.some.injEq, Value.slice.injEq, Addr.mk.injEq] at h1
  omega
theorem RDis.opp {w w' : World} {ds : Array Value} {m : DM} {fb fb' : Nat → Prop} (h : RDis w ds m) (ha : Away ds m fb) (hO : Opp fb fb' w w') : RDis w' ds m := by
  obtain ⟨A, cap, hc, hr⟩ := h
  refine ⟨A, cap, hc, fun hn => ?_⟩
  obtain ⟨g, off, rfl, hg, hcell⟩ := hr hn
  have hnf := ha hn g off _ _ hc.loose
  exact ⟨g, off, rfl, Nat.lt_of_lt_of_le hg hO.size, fun j u hu => (World.cell?_of_block (a := ⟨g, off + j, none⟩) (hO.block g hg hnf)).trans (hcell j u hu)⟩
theorem Away.opp2 {w w' : World} {cs : Array Value} {m : DM} {fb fb' : Nat → Prop} (ha : Away cs m fb) (h : LThs w cs m) (hO : Opp fb fb' w w') : Away cs m fb' := fun hn g off n c e hf =>
  (hO.sub g hf).elim (ha hn g off n c e) (fun hge => by have := h.lt hn e; omega)
theorem Away.fresh2 {w w' w0 : World} {cs0 cs : Array Value} {m0 m : DM} {fb : Nat → Prop} (ha : Away cs0 m0 fb) (h0 : LThs w0 cs0 m0) (h : LThs w' cs m) (hf : FreshR w cs0 cs) (hfb : ∀ b, fb b → b < w.heap.size) : Away cs m fb := fun hn g off n c e hfg => by
  rcases hf with hf | ⟨g', off', n', c', e', hg⟩
  · rw [e] at hf
    obtain ⟨A0, cap0, e0, -⟩ := h0
    obtain ⟨A1, cap1, e1, -⟩ := h
    rw [e] at e1
    rw [← hf] at e0
    simp only [Option.some.injEq, Value.slice.injEq] at e0 e1
    exact ha (by omega) g off n c hf.symm hfg
  · rw [e] at e'
    simp only [Option.some.injEq, Value.slice.injEq, Addr.mk.injEq] at e'
    have := hfb g hfg
    omega
theorem Opp.widen {fd fp : Nat → Prop} {w w' : World} (h : Opp fd fp w w') (bl : Nat) : Opp (fun b => fd b ∨ b = bl) fp w w' :=
  ⟨h.os, h.tape, h.output, h.size, fun k hk hn => h.block k hk (fun hf => hn (.inl hf)), fun b hb => (h.sub b hb).elim (fun h => .inl (.inl h)) .inr⟩
/-- A call's end, the document's log being known as it stands then. -/
theorem act10_end {w W2 w3 V : World} {bl bd bl3 : Nat} {M : DM} {file en3 tn3 : Int} {fd fd3 : Nat → Prop} {cs1 : Array Value} {xs' : List (List UInt8)} {k : Nat}
    (hB : Bel w W2) (hO : Opp (fun b => fd b ∨ b = bl) (fun b => fd3 b ∨ b = bl3) W2 w3) (hl : LogIs w3 bl3 bd M file en3 tn3 fd3) (hen : en3 = (recsN xs').length)
    (hr : RLog V cs1 M file tn3) (ha : Away cs1 M (fun b => fd3 b ∨ b = bl3)) (hst : Stands M file xs' k) (hfb : ∀ b, (fd b ∨ b = bl) → b < w.heap.size) (hs : w.heap.size + 3 ≤ W2.heap.size)
    (hz : w3.heap[w.heap.size + 1 + 1]? = some (.cells Tryz.zeroCells38 38 (0, 0))) (hV : Bel w3 V) :
    GivesAct10 bl bd file k fd w (.returned (.tuple #[.pointer (some ⟨bl3, 0, none⟩), .agg cs1, .bool true])) (V.setRow (w.heap.size + 1 + 1) cs1) := by
  subst hen
  have hnb : ¬ (fd3 (w.heap.size + 1 + 1) ∨ w.heap.size + 1 + 1 = bl3) := fun hf => (hO.sub _ hf).elim (fun h => by have := hfb _ h; omega) (fun h => by omega)
  exact ⟨bl3, M, xs', tn3, fd3, cs1, rfl, (hl.bel hV).setRow hnb cs1, hr.stored (hV.deferred hz) cs1, ha, hst, (((Opp.of_bel hB).trans hO).trans (Opp.of_bel hV)).setRow (by omega) cs1⟩
/-- What a drawn region at a call's end holds on to: the row that is loaded lies in the call's first block. -/
structure Act9 (B : Nat) (cs1 : Array Value) (V : World) : Prop where
  src : V.rangeAt B 0 cs1.toList
  dst : ∃ old, V.heap[B + 1 + 1]? = some (.cells old 38 (0, 0)) ∧ old.size = cs1.size ∧ B + 3 ≤ V.heap.size
theorem Act9.put {B : Nat} {cs1 : Array Value} {V : World} (h : Act9 B cs1 V) : Act9 B cs1 (V.setRow (B + 1 + 1) cs1) := by
  obtain ⟨old, ho, hz, hs⟩ := h.dst
  refine ⟨fun j v hv => ?_, cs1, setRow_heap _ _ _ _ _ _ ho, rfl, by rw [(setRow_else V (B + 1 + 1) cs1).2]; exact hs⟩
  rw [cell_setRow_other _ _ _ _ (by show B ≠ B + 1 + 1; omega)]
  exact h.src j v hv
theorem Act9.opp {B : Nat} {cs1 : Array Value} {V V' : World} {fb fb' : Nat → Prop} (h : Act9 B cs1 V) (hfb : ∀ b, fb b → b < B) (hO : Opp fb fb' V V') : Act9 B cs1 V' := by
  obtain ⟨old, ho, hz, hs⟩ := h.dst
  have hk : ∀ k, B ≤ k → k < V.heap.size → V'.heap[k]? = V.heap[k]? := fun k h1 h2 => hO.block k h2 (fun hf => by have := hfb k hf; omega)
  exact ⟨fun j v hv => (World.cell?_of_block (a := ⟨B, 0 + j, none⟩) (hk B (Nat.le_refl _) (by omega))).trans (h.src j v hv), old, (hk _ (by omega) (by omega)).trans ho, hz, Nat.le_trans hs hO.size⟩
theorem RLog.nilw {w w' : World} {cs : Array Value} {m : DM} {file tn : Int} (h : RLog w cs m file tn) (hn : m.loose = []) : RLog w' cs m file tn := by
  obtain ⟨ds, hd, e⟩ := h
  exact ⟨ds, hd.nil hn, e⟩
set_option maxRecDepth 100000 in
set_option maxHeartbeats 4000000 in
theorem act10_sync {w : World} {bl bd : Nat} {m : DM} {file tn : Int} {fd : Nat → Prop} {cs : Array Value} {xs : List (List UInt8)} {k : Nat} (hL : LogIs w bl bd m file (recsN xs).length tn fd) (hR : RLog w cs m file tn) (hA : Away cs m (fun b => fd b ∨ b = bl)) (hst : Stands m file xs k) (hk : k < 100000) (hg : ErrType w) (hn0 : ¬ (fd 0 ∨ 0 = bl)) (what keep torn : Int) (Ab : Option Addr) (cb : Nat) (s : List UInt8) (hw : what = 4) : Calls Tryz.prog 11 #[.pointer (some ⟨bl, 0, none⟩), .pointer (some ⟨bd, 0, none⟩), .agg cs, .agg #[.int .i64 what, .int .i64 keep, .int .i64 torn, .slice Ab s.length cb]] w (GivesAct10 bl bd file (k + 2) fd w) := by
  have HSZ := Lib.hid hR.info
  have HL := Lib.hid hL
  have HR := Lib.hid hR
  have hlt : bl < w.heap.size := (Array.getElem?_eq_some_iff.1 hL.blk).1
  have HFB : Hid (∀ b, (fd b ∨ b = bl) → b < w.heap.size) := fun b hb => hb.elim (hL.tight b) (fun h => by omega)
  have HW0 := Lib.hid (ActW.start w cs (.int .i64 what) (.int .i64 keep) (.int .i64 torn) (.slice Ab s.length cb))
  have hbl0 : Bel w (((w.alloc (.cells cs 38)).alloc (.cells #[.int .i64 what, .int .i64 keep, .int .i64 torn, .slice Ab s.length cb] 45)).alloc (.cells Tryz.zeroCells38 38)) := (((Bel.refl w).alloc _).alloc _).alloc _
  have HB0 := Lib.hid hbl0
  have HST := Lib.hid hst
  have HG := Lib.hid hg
  have HA := Lib.hid hA
  have HN0 := Lib.hid hn0
  obtain ⟨ds, hd, hcs⟩ := id hR
  have HDS := Lib.hid hd
  have HDI := Lib.hid hd.info
  have HCS := Lib.hid hcs
  have HL0 : Hid (LaidL (((w.alloc (.cells cs 38)).alloc (.cells #[.int .i64 what, .int .i64 keep, .int .i64 torn, .slice Ab s.length cb] 45)).alloc (.cells Tryz.zeroCells38 38)) w.heap.size ds file tn) := LaidL.of hd.size (by rw [← hcs]; exact HW0.out.row)
  have HSY := Lib.hid (rdSync_any (hd.bel hbl0) hst.fit)
  have hroom : m.room ≠ 0 := hst.fit'.ne
  have HROOM := Lib.hid hroom
  clear hL hR hA hst hg hbl0 hn0 hd hcs hroom
  subst hw
  go_enter Tryz.func11, Tryz.ntmps11
  go_wp2_with (first
    | (refine wpList_load_arr rfl 36 (.tmp 63) rfl w.heap.size 0 rfl ds _ HL0.out.disk Tryz.underlying36 rfl HDI.out ?_)
    | (go_at_call 27; refine HSY.out.mono ?_; rintro e w1 ⟨ds1, rfl, hd1, hb1⟩
       have HD1 := Lib.hid hd1
       have HI1 := Lib.hid hd1.info
       have HO1 := Lib.hid hd1.one
       have HB1 := Lib.hid (HB0.out.then_ hb1)
       have HW1 := Lib.hid (HW0.out.bel hb1)
       have HL1 := Lib.hid (HL0.out.bel hb1)
       have HT1 : Hid (w1.there w.heap.size 0 ds1.size) := there_blk HW1.out.row _ (by rw [hd1.size, HCS.out, Array.size_append, HDS.out.size]; omega)
       clear hd1 hb1)
    | (refine wpList_store_mid rfl 36 (.tmp 66) (.tmp 65) rfl w.heap.size 0 ds1 rfl rfl HT1.out HI1.out HO1.out ?_
       obtain ⟨W2, hW2⟩ : ∃ W2, W2 = w1.setCells w.heap.size 0 ds1.toList := ⟨_, rfl⟩
       rw [← hW2]
       have hb2 : Bel w W2 := by rw [hW2]; exact below_setCells (Nat.le_refl _) _ _ _ HB1.out
       have HB2 := Lib.hid hb2
       obtain ⟨k1, k2⟩ := setCells_else w.heap.size ds1.toList 0 w1
       rw [← hW2] at k1 k2
       have HS2 : Hid (w.heap.size + 3 ≤ W2.heap.size) := by show _ ≤ _; rw [k2]; exact HW1.out.size
       have HZ2 : Hid (W2.heap[w.heap.size + 1 + 1]? = some (.cells Tryz.zeroCells38 38 (0, 0))) := (k1 _ (by omega)).trans HW1.out.res
       have HL2 : Hid (LaidL W2 w.heap.size ds1 file tn) := by
         rw [hW2]
         refine ⟨World.rangeAt_setCells_same _ _ _ _ (by simpa using HT1.out), ?_, ?_⟩
         · rw [World.cell?_setCells_out _ _ _ _ _ (fun _ _ => .inr (by simp [HD1.out.size]))]
           exact HL1.out.file
         · rw [World.cell?_setCells_out _ _ _ _ _ (fun _ _ => .inr (by simp [HD1.out.size]))]
           exact HL1.out.torn
       clear hb2 hW2 k1 k2))
  obtain ⟨cs1, hcs1⟩ : ∃ cs1, cs1 = ds1 ++ (#[.int .i64 file, .int .i64 tn] : Array Value) := ⟨_, rfl⟩
  have HR2 : Hid (RLog W2.drew cs1 m.sync file tn) := ⟨ds1, HD1.out.nil rfl, hcs1⟩
  have HIL : Hid ((Tryz.prog.info? 38).map (·.size) = some cs1.size) := HR2.out.info
  have HZL : Hid (Tryz.zeroCells38.size = cs1.size) := HR2.out.zsize
  have HOL : Hid (cs1.all (·.oneCell') = true) := HR2.out.one
  have HLd := Lib.hid (HL.out.bel (HB2.out.drew))
  have HSYC := Lib.hid (sync_any HLd.out.disk HROOM.out)
  have hS0 : Act9 w.heap.size cs1 W2.drew := ⟨by rw [hcs1]; exact HL2.out.whole HD1.out.size, _, HZ2.out, HZL.out, HS2.out⟩
  clear hcs1
  go_wp2
  refine wp_region_noPanic ?_
  refine wp_region_held_drew (S := (Act9 w.heap.size cs1)) (by kernel_rfl) ?_ (fun hHr1_0 => ?_)
  · (try dsimp only); (first | exact hS0 | assumption | exact hS4 | exact Act9.put (by assumption))
  refine tk 0 ?_
  refine tkl 1 cs1 38 w.heap.size ?_ (fun V h => h.src) Tryz.underlying38 HIL.out
  refine tk 2 ?_
  refine rd1 3 (fun K hK => ?_)
  go_simp
  (go_at_call 17; refine HSYC.out.mono ?_; rintro e w4 ⟨rfl, fp4, hD4, hO4⟩; have HD4 := Lib.hid hD4; have HO4 := Lib.hid hO4; have hS4 : Act9 w.heap.size cs1 w4 := hS0.opp (fun b hb => HFB.out b (.inl hb)) hO4; clear hD4 hO4)
  try (go_wp2_with fail)
  refine hK.out _ _ ?_ (fun hHr1_1 => ?_)
  · (try dsimp only); (first | exact hS0 | assumption | exact hS4 | exact Act9.put (by assumption))
  clear hK K hHr1_0
  try simp only [tkp0, tkp1, tkp2, tkp3, tkp4, tkp5, tkp6, tkp7]
  refine rd1 4 (fun K hK => ?_)
  go_simp
  (go_at_call 8; refine (num10_any _ _).mono ?_; rintro e w' ⟨rfl, rfl⟩)
  try (go_wp2_with fail)
  refine hK.out _ _ ?_ (fun hHr1_2 => ?_)
  · (try dsimp only); (first | exact hS0 | assumption | exact hS4 | exact Act9.put (by assumption))
  clear hK K hHr1_1
  try simp only [tkp0, tkp1, tkp2, tkp3, tkp4, tkp5, tkp6, tkp7]
  refine tk 5 ?_
  refine rd1 6 (fun K hK => ?_)
  go_simp
  refine hK.out _ _ ?_ (fun hHr1_3 => ?_)
  · (try dsimp only); (first | exact hS0 | assumption | exact hS4 | exact Act9.put (by assumption))
  clear hK K hHr1_2
  try simp only [tkp0, tkp1, tkp2, tkp3, tkp4, tkp5, tkp6, tkp7]
  refine rd1 7 (fun K hK => ?_)
  rw [if_pos (by first | rfl | kernel_rfl)]
  obtain ⟨old8, ho8, hz8, -⟩ := Act9.dst (by assumption : Act9 w.heap.size cs1 _); refine wp_store_row _ _ _ rfl _ cs1 rfl rfl _ old8 ho8 HIL.out hz8 HOL.out ?_
  refine hK.out _ _ ?_ (fun hHr1_4 => ?_)
  · (try dsimp only); (first | exact hS0 | assumption | exact hS4 | exact Act9.put (by assumption))
  clear hK K hHr1_3
  try simp only [tkp0, tkp1, tkp2, tkp3, tkp4, tkp5, tkp6, tkp7]
  refine rd1 8 (fun K hK => ?_)
  go_simp
  refine hK.out _ _ ?_ (fun hHr1_5 => ?_)
  · (try dsimp only); (first | exact hS0 | assumption | exact hS4 | exact Act9.put (by assumption))
  clear hK K hHr1_4
  try simp only [tkp0, tkp1, tkp2, tkp3, tkp4, tkp5, tkp6, tkp7]
  refine wpAnyH_done (by kernel_rfl) ?_ _
  refine NoPanic.normal ?_
  go_wp2
  have hz4 : w4.heap[w.heap.size + 1 + 1]? = some (.cells Tryz.zeroCells38 38 (0, 0)) := (HO4.out.block _ (by have h1 := HS2.out; show _ < W2.heap.size; omega) (fun hf => by have := HFB.out _ (.inl hf); omega)).trans HZ2.out
  exact bodyPost_ret (v := .tuple #[.pointer (some ⟨bl, 0, none⟩), .agg cs1, .bool true]) (results_act rfl _ _ (w.heap.size + 1 + 1) cs1 _ _ rfl rfl rfl (setRow_heap _ _ _ _ _ _ hz4) HIL.out) rfl (act10_end HB2.out.drew (opp_log HO4.out) (HLd.out.op HD4.out HO4.out) rfl (HR2.out.nilw rfl) (fun h => absurd h (by show ¬ 0 < 0; omega)) (HST.out.sync.mono (by omega)) HFB.out HS2.out hz4 (Bel.refl _))
def readS : Option (Nat × List UInt8) → List UInt8
  | some p => p.2
  | none => []
def readN : Option (Nat × List UInt8) → Int
  | some p => (p.1 : Int) + 8 + p.2.length
  | none => 0
def readE : Option (Nat × List UInt8) → Int
  | some _ => 0
  | none => 4
theorem GivesLRead.v {r : Option (Nat × List UInt8)} {w w' : World} {e : Ending} (h : GivesLRead r w e w') : Bel w w' ∧ ∃ A, e = .returned (.tuple #[.slice A (readS r).length (readS r).length, .int .i64 (readN r), .int .i64 (readE r)]) ∧ BytesAt w' (.slice A (readS r).length (readS r).length) (readS r) (fun b => w.heap.size ≤ b) := by
  obtain ⟨hb, h⟩ := h
  cases r with
  | some p => obtain ⟨A, e, hB⟩ := h; exact ⟨hb, A, e, hB⟩
  | none => exact ⟨hb, none, h, BytesAt.nil _ _⟩
theorem GivesRRead.v {r : Option (Nat × List UInt8)} {w w' : World} {e : Ending} (h : GivesRRead r w e w') : Bel w w' ∧ e = .returned (.tuple #[.string ⟨(readS r).toArray⟩, .int .i64 (readN r), .int .i64 (readE r)]) := by
  obtain ⟨hb, h⟩ := h
  cases r with
  | some p => exact ⟨hb, h⟩
  | none => exact ⟨hb, h⟩
theorem find_row (R : List (Nat × List UInt8)) (a : Int) : match R.find? (fun q => decide ((q.1 : Int) = a)) with | some p => p ∈ R ∧ (p.1 : Int) = a | none => ∀ q ∈ R, (q.1 : Int) ≠ a := by
  cases h : R.find? (fun q => decide ((q.1 : Int) = a)) with
  | some p => exact ⟨List.mem_of_find?_eq_some h, by have := List.find?_some h; simpa using this⟩
  | none => exact fun q hq => by have := List.find?_eq_none.1 h q hq; simpa using this
theorem rows_small (xs : List (List UInt8)) (r : Option (Nat × List UInt8)) (hl : (recsN xs).length ≤ 16777216) (hr : match r with | some p => p ∈ rowsFrom 0 xs ∧ True | none => True) : 0 ≤ readN r ∧ readN r ≤ 16777216 := by
  cases r with
  | none => exact ⟨by decide, by decide⟩
  | some p =>
    have := rows_le xs 0 p hr.1
    show (0 : Int) ≤ (p.1 : Int) + 8 + p.2.length ∧ (p.1 : Int) + 8 + p.2.length ≤ 16777216
    omega
set_option maxRecDepth 100000 in
set_option maxHeartbeats 4000000 in
theorem act10_read {w : World} {bl bd : Nat} {m : DM} {file tn : Int} {fd : Nat → Prop} {cs : Array Value} {xs : List (List UInt8)} {k : Nat} (hL : LogIs w bl bd m file (recsN xs).length tn fd) (hR : RLog w cs m file tn) (hA : Away cs m (fun b => fd b ∨ b = bl)) (hst : Stands m file xs k) (hk : k < 100000) (hg : ErrType w) (hn0 : ¬ (fd 0 ∨ 0 = bl)) (what keep torn : Int) (Ab : Option Addr) (cb : Nat) (s : List UInt8) (hw : what < 0 ∨ 5 < what) : Calls Tryz.prog 11 #[.pointer (some ⟨bl, 0, none⟩), .pointer (some ⟨bd, 0, none⟩), .agg cs, .agg #[.int .i64 what, .int .i64 keep, .int .i64 torn, .slice Ab s.length cb]] w (GivesAct10 bl bd file (k + 2) fd w) := by
  have HSZ := Lib.hid hR.info
  have HL := Lib.hid hL
  have HR := Lib.hid hR
  have hlt : bl < w.heap.size := (Array.getElem?_eq_some_iff.1 hL.blk).1
  have HFB : Hid (∀ b, (fd b ∨ b = bl) → b < w.heap.size) := fun b hb => hb.elim (hL.tight b) (fun h => by omega)
  have HW0 := Lib.hid (ActW.start w cs (.int .i64 what) (.int .i64 keep) (.int .i64 torn) (.slice Ab s.length cb))
  have hbl0 : Bel w (((w.alloc (.cells cs 38)).alloc (.cells #[.int .i64 what, .int .i64 keep, .int .i64 torn, .slice Ab s.length cb] 45)).alloc (.cells Tryz.zeroCells38 38)) := (((Bel.refl w).alloc _).alloc _).alloc _
  have HB0 := Lib.hid hbl0
  have HST := Lib.hid hst
  have HG := Lib.hid hg
  have HA := Lib.hid hA
  have HN0 := Lib.hid hn0
  have hq0 : (what == 0) = false := by rw [beq_eq_false_iff_ne]; omega
  have hq1 : (what == 1) = false := by rw [beq_eq_false_iff_ne]; omega
  have hq2 : (what == 2) = false := by rw [beq_eq_false_iff_ne]; omega
  have hq3 : (what == 3) = false := by rw [beq_eq_false_iff_ne]; omega
  have hq4 : (what == 4) = false := by rw [beq_eq_false_iff_ne]; omega
  have hq5 : (what == 5) = false := by rw [beq_eq_false_iff_ne]; omega
  obtain ⟨r, hr⟩ : ∃ r, r = (rowsFrom 0 xs).find? (fun q => decide ((q.1 : Int) = keep)) := ⟨_, rfl⟩
  have hfr := find_row (rowsFrom 0 xs) keep
  rw [← hr] at hfr
  have HLR := Lib.hid (lRead_any (hL.bel hbl0) hst.fit' hst.lo hst.hi xs [] hst.small rfl (by rw [hst.is, List.append_nil]) keep r hfr)
  have HRR := Lib.hid (fun V (hV : Bel w V) => r10Read_any (hR.bel hV) hst.fit hst.lo hst.hi xs [] hst.small rfl (by rw [hst.is, List.append_nil]) keep r hfr)
  have HLEN := Lib.hid hst.len
  clear hL hR hA hst hg hbl0 hn0 hr hfr hw
  go_enter Tryz.func11, Tryz.ntmps11
  go_wp2_with (first
    | (go_at_call 15; refine HLR.out.mono ?_; rintro e w1 h1
       obtain ⟨hb1, A1, rfl, hB1⟩ := h1.v
       have HB1 := Lib.hid (HB0.out.then_ hb1)
       have HBY1 := Lib.hid hB1
       have HW1 := Lib.hid (HW0.out.bel hb1)
       obtain ⟨a0, a1, a2, a3⟩ := HW1.out.cells
       clear h1 hb1 hB1)
    | (refine wpList_load_row rfl 38 (.tmp 6) rfl w.heap.size rfl _ cs (0, 0) _ HW1.out.row Tryz.underlying38 rfl HSZ.out ?_)
    | (go_at_call 29; refine (HRR.out _ HB1.out).mono ?_; rintro e w2 h2
       obtain ⟨hb2, rfl⟩ := h2.v
       have HB2 := Lib.hid (HB1.out.then_ hb2)
       have HW2 := Lib.hid (HW1.out.bel hb2)
       have HBB2 := Lib.hid hb2
       clear h2 hb2))
  have HCV : Hid (∀ V : World, Bel w1 V → (convert 43 9 (.slice A1 (readS r).length (readS r).length)).run Tryz.prog V = .ok (.string ⟨(readS r).toArray⟩) V) := fun V hV => conv_reads _ (HBY1.out.reads.2.belHeap hV)
  have hcs : (w2.drew.setRow (w.heap.size + 1 + 1) cs).heap.size = w2.heap.size := (setRow_else _ _ _).2
  have HCVS : Hid ((convert 43 9 (.slice A1 (readS r).length (readS r).length)).run Tryz.prog (w2.drew.setRow (w.heap.size + 1 + 1) cs) = .ok (.string ⟨(readS r).toArray⟩) (w2.drew.setRow (w.heap.size + 1 + 1) cs)) := by
    have hbk : BytesAt (w2.drew.setRow (w.heap.size + 1 + 1) cs) (.slice A1 (readS r).length (readS r).length) (readS r) (fun b => w.heap.size + 3 ≤ b) := by
      have hsz3 : (((w.alloc (.cells cs 38)).alloc (.cells #[.int .i64 what, .int .i64 keep, .int .i64 torn, .slice Ab s.length cb] 45)).alloc (.cells Tryz.zeroCells38 38)).heap.size = w.heap.size + 3 := by simp
      refine BytesAt.kept HBY1.out (fun b hb hl => ?_) (fun b hb _ => ?_)
      · have hb' : (((w.alloc (.cells cs 38)).alloc (.cells #[.int .i64 what, .int .i64 keep, .int .i64 torn, .slice Ab s.length cb] 45)).alloc (.cells Tryz.zeroCells38 38)).heap.size ≤ b := hb
        exact ((setRow_else w2.drew (w.heap.size + 1 + 1) cs).1 b (by omega)).trans (HBB2.out.block b hl)
      · have hb' : (((w.alloc (.cells cs 38)).alloc (.cells #[.int .i64 what, .int .i64 keep, .int .i64 torn, .slice Ab s.length cb] 45)).alloc (.cells Tryz.zeroCells38 38)).heap.size ≤ b := hb
        show w.heap.size + 3 ≤ b
        omega
    exact conv_reads _ hbk.reads.2
  have hS0 : Act9 w.heap.size cs w2.drew ∧ (convert 43 9 (.slice A1 (readS r).length (readS r).length)).run Tryz.prog w2.drew = .ok (.string ⟨(readS r).toArray⟩) w2.drew := ⟨⟨fun j v hv => by rw [Nat.zero_add]; have := Blk.cell HW2.out.row j; rw [Array.getElem?_toList] at hv; exact this.trans hv, _, HW2.out.res, HR.out.zsize, HW2.out.size⟩, HCV.out _ HBB2.out.drew⟩
  have hS9 : Act9 w.heap.size cs (w2.drew.setRow (w.heap.size + 1 + 1) cs) ∧ (convert 43 9 (.slice A1 (readS r).length (readS r).length)).run Tryz.prog (w2.drew.setRow (w.heap.size + 1 + 1) cs) = .ok (.string ⟨(readS r).toArray⟩) (w2.drew.setRow (w.heap.size + 1 + 1) cs) := ⟨hS0.1.put, HCVS.out⟩
  clear hcs
  generalize (readS r).length = RN at *
  generalize readS r = RS at *
  generalize readN r = RM at *
  generalize readE r = RE at *
  refine wp_region_noPanic ?_
  refine wp_region_held_drew (S := (fun V : World => Act9 w.heap.size cs V ∧ (convert 43 9 (.slice A1 RN RN)).run Tryz.prog V = .ok (.string ⟨RS.toArray⟩) V)) (by kernel_rfl) ?_ (fun hHr2_0 => ?_)
  · (try dsimp only); (first | exact hS0 | assumption | exact hS9)
  refine tk 0 ?_
  refine tkl 1 cs 38 w.heap.size ?_ (fun V h => h.1.src) Tryz.underlying38 HSZ.out
  refine tk 2 ?_
  refine tk 3 ?_
  refine tk 4 ?_
  refine tk 5 ?_
  refine tk 6 ?_
  refine tk 7 ?_
  refine tk 8 ?_
  refine tk 9 ?_
  refine tk 10 ?_
  refine tk 11 ?_
  refine tk 12 ?_
  refine tk 14 ?_
  refine rd1 13 (fun K hK => ?_)
  go_simp
  (go_at_call 8; refine (num10_any _ _).mono ?_; rintro e w' ⟨rfl, rfl⟩)
  try (go_wp2_with fail)
  refine hK.out _ _ ?_ (fun hHr2_1 => ?_)
  · (try dsimp only); (first | exact hS0 | assumption | exact hS9)
  clear hK K hHr2_0
  try simp only [tkp0, tkp1, tkp2, tkp3, tkp4, tkp5, tkp6, tkp7]
  refine tk 15 ?_
  refine tk 16 ?_
  refine rd1 17 (fun K hK => ?_)
  go_simp
  refine hK.out _ _ ?_ (fun hHr2_2 => ?_)
  · (try dsimp only); (first | exact hS0 | assumption | exact hS9)
  clear hK K hHr2_1
  try simp only [tkp0, tkp1, tkp2, tkp3, tkp4, tkp5, tkp6, tkp7]
  refine rd1 18 (fun K hK => ?_)
  rw [if_pos (by first | rfl | kernel_rfl)]
  refine wp_store_row _ _ _ rfl _ cs rfl rfl _ _ HW2.out.res HSZ.out HR.out.zsize HR.out.one ?_
  refine hK.out _ _ ?_ (fun hHr2_3 => ?_)
  · (try dsimp only); (first | exact hS0 | assumption | exact hS9)
  clear hK K hHr2_2
  try simp only [tkp0, tkp1, tkp2, tkp3, tkp4, tkp5, tkp6, tkp7]
  refine rd1 19 (fun K hK => ?_)
  go_simp
  refine hK.out _ _ ?_ (fun hHr2_4 => ?_)
  · (try dsimp only); (first | exact hS0 | assumption | exact hS9)
  clear hK K hHr2_3
  try simp only [tkp0, tkp1, tkp2, tkp3, tkp4, tkp5, tkp6, tkp7]
  refine wpAnyH_done (by kernel_rfl) ?_ _
  refine NoPanic.normal ?_
  go_wp2
  have hO : Opp (fun b => fd b ∨ b = bl) (fun b => fd b ∨ b = bl) w w := Opp.refl _ _
  exact bodyPost_ret (v := .tuple #[.pointer (some ⟨bl, 0, none⟩), .agg cs, .bool true]) (results_act rfl _ _ (w.heap.size + 1 + 1) cs _ _ rfl rfl rfl (setRow_heap _ _ _ _ _ _ HW2.out.res) HSZ.out) rfl (act10_end HB2.out (Opp.refl _ _) (HL.out.bel HB2.out) rfl (HR.out.bel HB2.out.drew) HA.out (HST.out.mono (by omega)) HFB.out HW2.out.size HW2.out.res ((Bel.refl _).drew))
end Go.Proofs.YtiajggmnfaidjaaGreatDoor
set_option linter.unusedVariables false
set_option linter.unusedSimpArgs false
set_option linter.unusedVariables false
set_option linter.unusedSimpArgs false
namespace Go.Proofs.YtiajggmnfaidjaaGreatDoor
open Go.RowKit

set_option maxRecDepth 100000 in
set_option maxHeartbeats 4000000 in
theorem act10_crash_ok {w : World} {bl bd : Nat} {m : DM} {file tn : Int} {fd : Nat → Prop} {cs : Array Value} {xs : List (List UInt8)} {k : Nat} (hL : LogIs w bl bd m file (recsN xs).length tn fd) (hR : RLog w cs m file tn) (hA : Away cs m (fun b => fd b ∨ b = bl)) (hst : Stands m file xs k) (hk : k < 100000) (hg : ErrType w) (hn0 : ¬ (fd 0 ∨ 0 = bl)) (what keep torn : Int) (Ab : Option Addr) (cb : Nat) (s : List UInt8) (hw : what = 5) (hk0 : 0 ≤ keep) (ht0 : 0 ≤ torn) : Calls Tryz.prog 11 #[.pointer (some ⟨bl, 0, none⟩), .pointer (some ⟨bd, 0, none⟩), .agg cs, .agg #[.int .i64 what, .int .i64 keep, .int .i64 torn, .slice Ab s.length cb]] w (GivesAct10 bl bd file (k + 2) fd w) := by
  obtain ⟨K, rfl⟩ := Int.eq_ofNat_of_zero_le hk0
  obtain ⟨T, rfl⟩ := Int.eq_ofNat_of_zero_le ht0
  obtain ⟨keep, hkeep⟩ : ∃ keep : Int, keep = (K : Int) := ⟨_, rfl⟩
  obtain ⟨torn, htorn⟩ : ∃ torn : Int, torn = (T : Int) := ⟨_, rfl⟩
  rw [← hkeep, ← htorn]
  have HSZ := Lib.hid hR.info
  have HL := Lib.hid hL
  have HR := Lib.hid hR
  have hlt : bl < w.heap.size := (Array.getElem?_eq_some_iff.1 hL.blk).1
  have HFB : Hid (∀ b, (fd b ∨ b = bl) → b < w.heap.size) := fun b hb => hb.elim (hL.tight b) (fun h => by omega)
  have HW0 := Lib.hid (ActW.start w cs (.int .i64 what) (.int .i64 keep) (.int .i64 torn) (.slice Ab s.length cb))
  have hbl0 : Bel w (((w.alloc (.cells cs 38)).alloc (.cells #[.int .i64 what, .int .i64 keep, .int .i64 torn, .slice Ab s.length cb] 45)).alloc (.cells Tryz.zeroCells38 38)) := (((Bel.refl w).alloc _).alloc _).alloc _
  have HB0 := Lib.hid hbl0
  have HST := Lib.hid hst
  have HG := Lib.hid hg
  have HA := Lib.hid hA
  have HN0 := Lib.hid hn0
  obtain ⟨ds, hd, hcs⟩ := id hR
  have HDS := Lib.hid hd
  have HDI := Lib.hid hd.info
  have HCS := Lib.hid hcs
  have HL0 : Hid (LaidL (((w.alloc (.cells cs 38)).alloc (.cells #[.int .i64 what, .int .i64 keep, .int .i64 torn, .slice Ab s.length cb] 45)).alloc (.cells Tryz.zeroCells38 38)) w.heap.size ds file tn) := LaidL.of hd.size (by rw [← hcs]; exact HW0.out.row)
  have hroom : m.room ≠ 0 := hst.fit'.ne
  have hfew : m.loose.length < 1000000 := by have := hst.few; omega
  have HCR := Lib.hid (rdCrash_ok (hd.bel hbl0) hst.fit hfew K T)
  rw [← hkeep, ← htorn] at HCR
  have hF3 : RFit (m.crash keep torn) := hst.fit.crash keep torn (by omega)
  obtain ⟨ys, t, hy, ht, hs3, hst3⟩ := Stands.opened hF3 file hst.lo hst.hi 0 (Nat.le_of_eq (crash_loose m keep torn)) (by omega)
  have HST3 := Lib.hid hst3
  have HCC := Lib.hid (fun V (hD : DiskIs V bd m fd) => crash_any hD hroom keep torn (by omega) (by omega) (fun k x hx => hst.fit.crash_len keep torn (by omega) k x hx) (by omega))
  have HLO := Lib.hid (fun V fp (hD : DiskIs V bd (m.crash keep torn) fp) (hG : ErrType V) => lopen_any hD hF3.fit hG file hst.lo hst.hi ys t hy ht hs3)
  have HRO := Lib.hid (fun V ds (hD : RDis V ds (m.crash keep torn)) => r10Open_fresh hD hF3 (by rw [crash_loose]; omega) file hst.lo hst.hi ys t hy ht hs3)
  have HNIL : Hid ((m.crash keep torn).loose = []) := Lib.hid rfl
  generalize m.crash keep torn = M3 at *
  have HZ0 : Hid (m.loose.length < 1000000) := hfew
  clear hL hR hst hg hbl0 hn0 hcs hroom hfew hd hA hF3 hy ht hs3 hst3 hkeep htorn hk0 ht0
  subst hw
  go_enter Tryz.func11, Tryz.ntmps11
  go_wp2_with (first
    | (refine wpList_load_arr rfl 36 (.tmp 76) rfl w.heap.size 0 rfl ds _ HL0.out.disk Tryz.underlying36 rfl HDI.out ?_)
    | (go_at_call 28; refine HCR.out.mono ?_; rintro e w1 ⟨ds1, rfl, hd1, hb1⟩
       have HD1 := Lib.hid hd1
       have HI1 := Lib.hid hd1.info
       have HZ1 := Lib.hid hd1.zsize
       have HO1 := Lib.hid hd1.one
       have HB1 := Lib.hid (HB0.out.then_ hb1)
       have HW1 := Lib.hid (HW0.out.bel hb1)
       clear hd1 hb1)
    | (refine wpList_store_row rfl 36 (.tmp 16) (.tmp 83) rfl w1.heap.size ds1 rfl rfl _ _ (World.alloc_heap_new _ _) HI1.out HZ1.out HO1.out ?_
       rw [World.setRow_alloc_new]
       obtain ⟨W2, hW2⟩ : ∃ W2, W2 = w1.alloc (.cells ds1 36) := ⟨_, rfl⟩
       rw [← hW2]
       have hb2 : Bel w1 W2 := by rw [hW2]; exact (Bel.refl w1).alloc _
       have HB2 := Lib.hid (HB1.out.then_ hb2)
       have hw2 := HW1.out.bel hb2
       have HW2 := Lib.hid hw2
       have HD2 := Lib.hid (HD1.out.bel hb2)
       have HS2 : Hid (W2.heap.size = w1.heap.size + 1) := by show _ = _; rw [hW2]; simp
       have HE2 : Hid (W2.heap[w1.heap.size]? = some (.cells ds1 36 (0, 0))) := by show _ = _; rw [hW2]; exact World.alloc_heap_new _ _
       obtain ⟨a0, a1, a2, a3⟩ := hw2.cells
       have HCC2 := Lib.hid (HCC.out W2 (HL.out.bel HB2.out).disk)
       clear hb2 hw2 hW2)
    | (go_at_call 18; refine HCC2.out.mono ?_; rintro e w3 ⟨rfl, fp3, hD3, hO3⟩
       have HD3 := Lib.hid hD3
       have HO3 := Lib.hid hO3
       have hw3 := HW2.out.opp (fun b hb => HFB.out b (.inl hb)) hO3
       have hl3 : LaidL w3 w.heap.size ds file tn := LaidL.of HDS.out.size (by rw [← HCS.out]; exact hw3.row)
       have c66 := hl3.file
       have HLO3 := Lib.hid (HLO.out w3 fp3 hD3 ((HG.out.bel HB2.out).opp hO3 (fun hf => HN0.out (.inl hf))))
       clear hD3 hO3 hw3 hl3 a0 a1 a2 a3)
    | (go_at_call 7; refine HLO3.out.mono ?_; rintro e w4 ⟨bl4, fd4, rfl, hbl4, hl4, hO4⟩
       have hO34 := HO3.out.trans hO4
       have HO34 := Lib.hid hO34
       have HL4 := Lib.hid hl4
       have hw4 := HW2.out.opp (fun b hb => HFB.out b (.inl hb)) hO34
       have HW4 := Lib.hid hw4
       have hl4' : LaidL w4 w.heap.size ds file tn := LaidL.of HDS.out.size (by rw [← HCS.out]; exact hw4.row)
       have c664 := hl4'.file
       have HE4 : Hid (w4.heap[w1.heap.size]? = some (.cells ds1 36 (0, 0))) := (hO34.block _ (by have := HS2.out; omega) (fun hf => by have h1 := HFB.out _ (.inl hf); have h2 := HW1.out.size; omega)).trans HE2.out
       have HFB4 : Hid (∀ b, (fd4 b ∨ b = bl4) → b < w4.heap.size) := fun b hb => hb.elim (hl4.tight b) (fun h => by have := (Array.getElem?_eq_some_iff.1 hl4.blk).1; omega)
       have hd4 : RDis w4 ds1 M3 := HD2.out.nil HNIL.out
       have HD4 := Lib.hid hd4
       have HA4 : Hid (Away ds1 M3 (fun b => fd4 b ∨ b = bl4)) := fun h => absurd h (by rw [HNIL.out]; simp)
       have HRO4 := Lib.hid (HRO.out w4 ds1 hd4)
       clear hO34 hl4 hw4 hl4' hO4 c66 hd4)
    | (refine wpList_load_row rfl 36 (.tmp 16) rfl w1.heap.size rfl _ ds1 (0, 0) _ HE4.out Tryz.underlying36 rfl HI1.out ?_)
    | (go_at_call 9; refine HRO4.out.mono ?_; rintro e w5 ⟨cs5, rfl, hr5, hb5, hf5⟩
       have HR5 := Lib.hid hr5
       have HI5 := Lib.hid hr5.info
       have HZ5 := Lib.hid hr5.zsize
       have HO5 := Lib.hid hr5.one
       have HB5 := Lib.hid hb5
       have HF5 := Lib.hid hf5
       have HW5 := Lib.hid (HW4.out.bel hb5)
       clear hr5 hb5 hf5)
    | (go_at_call 8; refine (num10_any _ _).mono ?_; rintro e w' ⟨rfl, rfl⟩)
    | (refine wpList_store_row rfl 38 (.tmp 9) (.tmp 102) rfl (w.heap.size + 1 + 1) cs5 rfl rfl _ _ HW5.out.res HI5.out HZ5.out HO5.out ?_))
  have ha5 := HA4.out.fresh2 HD4.out.cell HR5.out.cell HF5.out HFB4.out
  exact bodyPost_ret (v := .tuple #[.pointer (some ⟨bl4, 0, none⟩), .agg cs5, .bool true]) (results_act rfl _ _ (w.heap.size + 1 + 1) cs5 _ _ rfl rfl rfl (setRow_heap _ _ _ _ _ _ HW5.out.res) HI5.out) rfl (act10_end HB2.out (HO34.out.widen bl) HL4.out rfl HR5.out ha5 (HST3.out.mono (by omega)) HFB.out HW2.out.size HW4.out.res HB5.out)
set_option maxRecDepth 100000 in
set_option maxHeartbeats 4000000 in
theorem act10_crash_arg {w : World} {bl bd : Nat} {m : DM} {file tn : Int} {fd : Nat → Prop} {cs : Array Value} {xs : List (List UInt8)} {k : Nat} (hL : LogIs w bl bd m file (recsN xs).length tn fd) (hR : RLog w cs m file tn) (hA : Away cs m (fun b => fd b ∨ b = bl)) (hst : Stands m file xs k) (hk : k < 100000) (hg : ErrType w) (hn0 : ¬ (fd 0 ∨ 0 = bl)) (what keep torn : Int) (Ab : Option Addr) (cb : Nat) (s : List UInt8) (hw : what = 5) (hka : keep < 0 ∨ torn < 0) : Calls Tryz.prog 11 #[.pointer (some ⟨bl, 0, none⟩), .pointer (some ⟨bd, 0, none⟩), .agg cs, .agg #[.int .i64 what, .int .i64 keep, .int .i64 torn, .slice Ab s.length cb]] w (GivesAct10 bl bd file (k + 2) fd w) := by
  have HSZ := Lib.hid hR.info
  have HL := Lib.hid hL
  have HR := Lib.hid hR
  have hlt : bl < w.heap.size := (Array.getElem?_eq_some_iff.1 hL.blk).1
  have HFB : Hid (∀ b, (fd b ∨ b = bl) → b < w.heap.size) := fun b hb => hb.elim (hL.tight b) (fun h => by omega)
  have HW0 := Lib.hid (ActW.start w cs (.int .i64 what) (.int .i64 keep) (.int .i64 torn) (.slice Ab s.length cb))
  have hbl0 : Bel w (((w.alloc (.cells cs 38)).alloc (.cells #[.int .i64 what, .int .i64 keep, .int .i64 torn, .slice Ab s.length cb] 45)).alloc (.cells Tryz.zeroCells38 38)) := (((Bel.refl w).alloc _).alloc _).alloc _
  have HB0 := Lib.hid hbl0
  have HST := Lib.hid hst
  have HG := Lib.hid hg
  have HA := Lib.hid hA
  have HN0 := Lib.hid hn0
  obtain ⟨ds, hd, hcs⟩ := id hR
  have HDS := Lib.hid hd
  have HDI := Lib.hid hd.info
  have HCS := Lib.hid hcs
  have HL0 : Hid (LaidL (((w.alloc (.cells cs 38)).alloc (.cells #[.int .i64 what, .int .i64 keep, .int .i64 torn, .slice Ab s.length cb] 45)).alloc (.cells Tryz.zeroCells38 38)) w.heap.size ds file tn) := LaidL.of hd.size (by rw [← hcs]; exact HW0.out.row)
  have hroom : m.room ≠ 0 := hst.fit'.ne
  have hfew : m.loose.length < 1000000 := by have := hst.few; omega
  have HCR := Lib.hid (rdCrash_arg (hd.bel hbl0) keep torn hka)
  have hop : m.opened file (recsN xs).length = m := by unfold DM.opened; rw [if_pos (by rw [hst.is])]
  have hs3 : m.files file = recsN xs ++ [] := by rw [hst.is, List.append_nil]
  have HST3 := Lib.hid hst
  have HCC := Lib.hid (fun V (hD : DiskIs V bd m fd) => crash_arg hD hroom keep torn hka)
  have hlo1 := fun V fp (hD : DiskIs V bd m fp) (hG : ErrType V) => lopen_any hD hst.fit' hG file hst.lo hst.hi xs [] hst.small rfl hs3
  have hro1 := fun V ds (hD : RDis V ds m) => r10Open_fresh hD hst.fit hfew file hst.lo hst.hi xs [] hst.small rfl hs3
  rw [hop] at hlo1 hro1
  have HLO := Lib.hid hlo1
  have HRO := Lib.hid hro1
  have HAD : Hid (Away ds m (fun b => fd b ∨ b = bl)) := fun hn g off n c e => hA hn g off n c (by rw [hcs, Array.getElem?_append_left (by rw [hd.size]; omega)]; exact e)
  have HZ0 : Hid (m.loose.length < 1000000) := hfew
  clear hL hR hst hg hbl0 hn0 hcs hroom hfew hd hA hop hs3 hlo1 hro1 hka
  subst hw
  go_enter Tryz.func11, Tryz.ntmps11
  go_wp2_with (first
    | (refine wpList_load_arr rfl 36 (.tmp 76) rfl w.heap.size 0 rfl ds _ HL0.out.disk Tryz.underlying36 rfl HDI.out ?_)
    | (go_at_call 28; refine HCR.out.mono ?_; rintro e w1 ⟨ds1, rfl, hd1, hb1, hfr1⟩
       have HD1 := Lib.hid hd1
       have HI1 := Lib.hid hd1.info
       have HZ1 := Lib.hid hd1.zsize
       have HO1 := Lib.hid hd1.one
       have HAD1 := Lib.hid (HAD.out.fresh2 HDS.out.cell hd1.cell hfr1 (fun b hb => Nat.lt_of_lt_of_le (HFB.out b hb) HB0.out.size))
       clear hfr1
       have HB1 := Lib.hid (HB0.out.then_ hb1)
       have HW1 := Lib.hid (HW0.out.bel hb1)
       clear hd1 hb1)
    | (refine wpList_store_row rfl 36 (.tmp 16) (.tmp 83) rfl w1.heap.size ds1 rfl rfl _ _ (World.alloc_heap_new _ _) HI1.out HZ1.out HO1.out ?_
       rw [World.setRow_alloc_new]
       obtain ⟨W2, hW2⟩ : ∃ W2, W2 = w1.alloc (.cells ds1 36) := ⟨_, rfl⟩
       rw [← hW2]
       have hb2 : Bel w1 W2 := by rw [hW2]; exact (Bel.refl w1).alloc _
       have HB2 := Lib.hid (HB1.out.then_ hb2)
       have hw2 := HW1.out.bel hb2
       have HW2 := Lib.hid hw2
       have HD2 := Lib.hid (HD1.out.bel hb2)
       have HS2 : Hid (W2.heap.size = w1.heap.size + 1) := by show _ = _; rw [hW2]; simp
       have HE2 : Hid (W2.heap[w1.heap.size]? = some (.cells ds1 36 (0, 0))) := by show _ = _; rw [hW2]; exact World.alloc_heap_new _ _
       obtain ⟨a0, a1, a2, a3⟩ := hw2.cells
       have HCC2 := Lib.hid (HCC.out W2 (HL.out.bel HB2.out).disk)
       clear hb2 hw2 hW2)
    | (go_at_call 18; refine HCC2.out.mono ?_; rintro e w3 ⟨rfl, fp3, hD3, hO3⟩
       have HD3 := Lib.hid hD3
       have HO3 := Lib.hid hO3
       have hw3 := HW2.out.opp (fun b hb => HFB.out b (.inl hb)) hO3
       have hl3 : LaidL w3 w.heap.size ds file tn := LaidL.of HDS.out.size (by rw [← HCS.out]; exact hw3.row)
       have c66 := hl3.file
       have HLO3 := Lib.hid (HLO.out w3 fp3 hD3 ((HG.out.bel HB2.out).opp hO3 (fun hf => HN0.out (.inl hf))))
       clear hD3 hO3 hw3 hl3 a0 a1 a2 a3)
    | (go_at_call 7; refine HLO3.out.mono ?_; rintro e w4 ⟨bl4, fd4, rfl, hbl4, hl4, hO4⟩
       have hO34 := HO3.out.trans hO4
       have HO34 := Lib.hid hO34
       have HL4 := Lib.hid hl4
       have hw4 := HW2.out.opp (fun b hb => HFB.out b (.inl hb)) hO34
       have HW4 := Lib.hid hw4
       have hl4' : LaidL w4 w.heap.size ds file tn := LaidL.of HDS.out.size (by rw [← HCS.out]; exact hw4.row)
       have c664 := hl4'.file
       have HE4 : Hid (w4.heap[w1.heap.size]? = some (.cells ds1 36 (0, 0))) := (hO34.block _ (by have := HS2.out; omega) (fun hf => by have h1 := HFB.out _ (.inl hf); have h2 := HW1.out.size; omega)).trans HE2.out
       have HFB4 : Hid (∀ b, (fd4 b ∨ b = bl4) → b < w4.heap.size) := fun b hb => hb.elim (hl4.tight b) (fun h => by have := (Array.getElem?_eq_some_iff.1 hl4.blk).1; omega)
       have hd4 : RDis w4 ds1 m := HD2.out.opp HAD1.out (hO34.widen bl)
       have HD4 := Lib.hid hd4
       have HA4 : Hid (Away ds1 m (fun b => fd4 b ∨ b = bl4)) := HAD1.out.opp2 HD2.out.cell (hO34.widen bl)
       have HRO4 := Lib.hid (HRO.out w4 ds1 hd4)
       clear hO34 hl4 hw4 hl4' hO4 c66 hd4)
    | (refine wpList_load_row rfl 36 (.tmp 16) rfl w1.heap.size rfl _ ds1 (0, 0) _ HE4.out Tryz.underlying36 rfl HI1.out ?_)
    | (go_at_call 9; refine HRO4.out.mono ?_; rintro e w5 ⟨cs5, rfl, hr5, hb5, hf5⟩
       have HR5 := Lib.hid hr5
       have HI5 := Lib.hid hr5.info
       have HZ5 := Lib.hid hr5.zsize
       have HO5 := Lib.hid hr5.one
       have HB5 := Lib.hid hb5
       have HF5 := Lib.hid hf5
       have HW5 := Lib.hid (HW4.out.bel hb5)
       clear hr5 hb5 hf5)
    | (go_at_call 8; refine (num10_any _ _).mono ?_; rintro e w' ⟨rfl, rfl⟩)
    | (refine wpList_store_row rfl 38 (.tmp 9) (.tmp 102) rfl (w.heap.size + 1 + 1) cs5 rfl rfl _ _ HW5.out.res HI5.out HZ5.out HO5.out ?_))
  have ha5 := HA4.out.fresh2 HD4.out.cell HR5.out.cell HF5.out HFB4.out
  exact bodyPost_ret (v := .tuple #[.pointer (some ⟨bl4, 0, none⟩), .agg cs5, .bool true]) (results_act rfl _ _ (w.heap.size + 1 + 1) cs5 _ _ rfl rfl rfl (setRow_heap _ _ _ _ _ _ HW5.out.res) HI5.out) rfl (act10_end HB2.out (HO34.out.widen bl) HL4.out rfl HR5.out ha5 (HST3.out.mono (by omega)) HFB.out HW2.out.size HW4.out.res HB5.out)
end Go.Proofs.YtiajggmnfaidjaaGreatDoor
set_option linter.unusedVariables false
set_option linter.unusedSimpArgs false
set_option linter.unusedVariables false
set_option linter.unusedSimpArgs false
namespace Go.Proofs.YtiajggmnfaidjaaGreatDoor
open Go.RowKit

theorem act10_any {w : World} {bl bd : Nat} {m : DM} {file tn : Int} {fd : Nat → Prop} {cs : Array Value} {xs : List (List UInt8)} {k : Nat} (hL : LogIs w bl bd m file (recsN xs).length tn fd) (hR : RLog w cs m file tn) (hA : Away cs m (fun b => fd b ∨ b = bl)) (hst : Stands m file xs k) (hk : k < 100000) (hg : ErrType w) (hn0 : ¬ (fd 0 ∨ 0 = bl))
    (what keep torn : Int) (Ab : Option Addr) (cb : Nat) (s : List UInt8) (hs : s.length ≤ 60) (hrd : Reads w w.heap.size 1 Ab s.length (s.map bv)) :
    Calls Tryz.prog 11 #[.pointer (some ⟨bl, 0, none⟩), .pointer (some ⟨bd, 0, none⟩), .agg cs, .agg #[.int .i64 what, .int .i64 keep, .int .i64 torn, .slice Ab s.length cb]] w (GivesAct10 bl bd file (k + 2) fd w) := by
  by_cases h1 : what = 0 ∨ what = 1 ∨ what = 2 ∨ what = 3
  · rcases hst.append (by omega) s (by omega) with h | h
    · exact act10_append_ok hL hR hA hst hk hg hn0 what keep torn Ab cb s hs hrd h1 h
    · exact act10_append_full hL hR hA hst hk hg hn0 what keep torn Ab cb s hs hrd h1 h
  by_cases h4 : what = 4
  · exact act10_sync hL hR hA hst hk hg hn0 what keep torn Ab cb s h4
  by_cases h5 : what = 5
  · by_cases h6 : keep < 0 ∨ torn < 0
    · exact act10_crash_arg hL hR hA hst hk hg hn0 what keep torn Ab cb s h5 h6
    · exact act10_crash_ok hL hR hA hst hk hg hn0 what keep torn Ab cb s h5 (by omega) (by omega)
  exact act10_read hL hR hA hst hk hg hn0 what keep torn Ab cb s (by omega)
/-- How both stand, some blocks being none of the log's. -/
def PlayIs (w V : World) (bl bd : Nat) (file : Int) (cs : Array Value) (k : Nat) (B : Nat → Prop) : Prop :=
  ∃ m xs tn fd, LogIs V bl bd m file (recsN xs).length tn fd ∧ RLog V cs m file tn ∧ Away cs m (fun b => fd b ∨ b = bl) ∧ Stands m file xs k ∧ Bel w V ∧ (∀ b, (fd b ∨ b = bl) → w.heap.size ≤ b) ∧ (∀ b, B b → ¬ (fd b ∨ b = bl))
section
variable {w V V' : World} {bl bd : Nat} {file : Int} {cs : Array Value} {k : Nat} {B : Nat → Prop}
theorem PlayIs.bel (h : PlayIs w V bl bd file cs k B) (hb : Bel V V') : PlayIs w V' bl bd file cs k B := by
  obtain ⟨m, xs, tn, fd, h1, h2, h3, h4, h5, h6, h7⟩ := h
  exact ⟨m, xs, tn, fd, h1.bel hb, h2.bel hb, h3, h4, h5.then_ hb, h6, h7⟩
theorem PlayIs.old (h : PlayIs w V bl bd file cs k B) : Bel w V := by
  obtain ⟨m, xs, tn, fd, h1, h2, h3, h4, h5, h6, h7⟩ := h
  exact h5
theorem PlayIs.mono {B' : Nat → Prop} (h : PlayIs w V bl bd file cs k B) (hB : ∀ b, B' b → B b) : PlayIs w V bl bd file cs k B' := by
  obtain ⟨m, xs, tn, fd, h1, h2, h3, h4, h5, h6, h7⟩ := h
  exact ⟨m, xs, tn, fd, h1, h2, h3, h4, h5, h6, fun b hb => h7 b (hB b hb)⟩
/-- A block that lies above all that the log knows. -/
theorem PlayIs.new (h : PlayIs w V bl bd file cs k B) (o : Obj) : PlayIs w (V.alloc o) bl bd file cs k (fun b => B b ∨ b = V.heap.size) := by
  have hb : Bel V (V.alloc o) := (Bel.refl V).alloc o
  obtain ⟨m, xs, tn, fd, h1, h2, h3, h4, h5, h6, h7⟩ := h
  refine ⟨m, xs, tn, fd, h1.bel hb, h2.bel hb, h3, h4, h5.then_ hb, h6, fun b hB => hB.elim (h7 b) (fun e hf => ?_)⟩
  subst e
  have hl := (Array.getElem?_eq_some_iff.1 h1.blk).1
  exact hf.elim (fun hf => by have := h1.tight _ hf; omega) (fun e => by omega)
theorem PlayIs.info (h : PlayIs w V bl bd file cs k B) : (Tryz.prog.info? 38).map (·.size) = some cs.size ∧ Tryz.zeroCells38.size = cs.size ∧ cs.all (·.oneCell') = true := by
  obtain ⟨m, xs, tn, fd, h1, h2, h3, h4, h5, h6, h7⟩ := h
  exact ⟨h2.info, h2.zsize, h2.one⟩
theorem PlayIs.nobool (h : PlayIs w V bl bd file cs k B) (i : Nat) (v : Bool) (hv : cs[i]? = some (.bool v)) : False := by
  obtain ⟨m, xs, tn, fd, h1, h2, h3, h4, h5, h6, h7⟩ := h
  exact h2.nobool i v hv
theorem PlayIs.put (h : PlayIs w V bl bd file cs k B) {b : Nat} (hb : B b) (hw : w.heap.size ≤ b) {old : Array Value} {T : TypeId} (ho : V.heap[b]? = some (.cells old T (0, 0))) (hn : ∀ (i : Nat) (v : Bool), old[i]? = some (.bool v) → False) (cs' : Array Value) : PlayIs w (V.setRow b cs') bl bd file cs k B := by
  obtain ⟨m, xs, tn, fd, h1, h2, h3, h4, h5, h6, h7⟩ := h
  obtain ⟨k1, k2⟩ := setRow_else V b cs'
  obtain ⟨ds, hd, e⟩ := h2
  exact ⟨m, xs, tn, fd, h1.setRow (h7 b hb) cs', ⟨ds, hd.apart ho hn k1 k2, e⟩, h3, h4, below_setRow h5 hw cs', h6, h7⟩
theorem play_act (h : PlayIs w V bl bd file cs k B) (hk : k < 100000) (hB : ∀ b, B b → b < V.heap.size) (hg : ErrType w)
    (what keep torn : Int) (Ab : Option Addr) (cb : Nat) (s : List UInt8) (hs : s.length ≤ 60) (hrd : Reads w w.heap.size 1 Ab s.length (s.map bv)) :
    Calls Tryz.prog 11 #[.pointer (some ⟨bl, 0, none⟩), .pointer (some ⟨bd, 0, none⟩), .agg cs, .agg #[.int .i64 what, .int .i64 keep, .int .i64 torn, .slice Ab s.length cb]] V fun e V' =>
      ∃ bl' cs', e = .returned (.tuple #[.pointer (some ⟨bl', 0, none⟩), .agg cs', .bool true]) ∧ PlayIs w V' bl' bd file cs' (k + 2) B ∧ (∀ b, B b → V'.heap[b]? = V.heap[b]?) ∧ V.heap.size ≤ V'.heap.size := by
  obtain ⟨m, xs, tn, fd, h1, h2, h3, h4, h5, h6, h7⟩ := h
  have hpos : 0 < w.heap.size := World.block_lt_of_cell? w ⟨0, 0, none⟩ hg
  refine (act10_any h1 h2 h3 h4 hk (hg.bel h5) (fun hf => by have := h6 0 hf; omega) what keep torn Ab cb s hs (hrd.belHeap h5)).mono ?_
  rintro e V' ⟨bl', m', xs', tn', fd', cs', rfl, g1, g2, g3, g4, g5⟩
  refine ⟨bl', cs', rfl, ⟨m', xs', tn', fd', g1, g2, g3, g4, h5.trans (g5.below h5.size h6), fun b hb => (g5.sub b hb).elim (h6 b) (fun h => Nat.le_trans h5.size h), fun b hb hf => (g5.sub b hf).elim (h7 b hb) (fun h => by have := hB b hb; omega)⟩, fun b hb => g5.block b (hB b hb) (h7 b hb), g5.size⟩
theorem play_is (h : PlayIs w V bl bd file cs k B) (from_ many : Int) :
    Calls Tryz.prog 12 #[.pointer (some ⟨bl, 0, none⟩), .agg cs, .int .i64 from_, .int .i64 many] V fun e V' => e = .returned (.bool true) ∧ Bel V V' := by
  obtain ⟨m, xs, tn, fd, h1, h2, h3, h4, h5, h6, h7⟩ := h
  exact is10_any (by rw [h4.is]; exact h1) h4.fit h4.lo h4.hi xs h4.small h4.is cs h2 from_ many
end
/-- The start. -/
theorem play_start {w V : World} {bd : Nat} {fp : Nat → Prop} {room : Int} (h1 : 1 ≤ room) (h2 : room ≤ 16777216) (hD : DiskIs V bd (DM.new room) fp) (hf : ∀ b, fp b → w.heap.size ≤ b) (hB : Bel w V) (hg : ErrType w) (file : Int) (h0 : 0 ≤ file) (h64 : file < 64) :
    Calls Tryz.prog 7 #[.pointer (some ⟨bd, 0, none⟩), .int .i64 file] V fun e V' => ∃ bl, e = .returned (.tuple #[.pointer (some ⟨bl, 0, none⟩), .int .i64 0]) ∧ w.heap.size ≤ bl ∧
      (∃ fd, LogIs V' bl bd (DM.new room) file 0 0 fd ∧ (∀ b, (fd b ∨ b = bl) → w.heap.size ≤ b)) ∧ Bel w V' := by
  have hfit := RFit.new room h1 h2
  have hop : (DM.new room).opened file (recsN []).length = DM.new room := by unfold DM.opened; exact if_pos rfl
  refine (lopen_any hD hfit.fit (hg.bel hB) file h0 h64 [] [] (by simp) rfl rfl).mono ?_
  rintro e V' ⟨bl, fd', rfl, hbl, hl, hO⟩
  rw [hop] at hl
  exact ⟨bl, rfl, Nat.le_trans hB.size hbl, ⟨fd', hl, fun b hb => (hO.sub b hb).elim (hf b) (fun h => Nat.le_trans hB.size h)⟩, hB.trans (hO.below hB.size hf)⟩
theorem play_want {w V : World} {bl bd : Nat} {fd : Nat → Prop} {room : Int} (h1 : 1 ≤ room) (h2 : room ≤ 16777216) {file : Int} (h0 : 0 ≤ file) (h64 : file < 64) (hl : LogIs V bl bd (DM.new room) file 0 0 fd) (hf : ∀ b, (fd b ∨ b = bl) → w.heap.size ≤ b) (hB : Bel w V) {ds : Array Value} (hd : RDis V ds (DM.new room)) :
    Calls Tryz.prog 9 #[.agg ds, .int .i64 file] V fun e V' => ∃ cs, e = .returned (.agg cs) ∧ PlayIs w V' bl bd file cs 1 (fun _ => False) ∧ Bel V V' := by
  have hfit := RFit.new room h1 h2
  have hop : (DM.new room).opened file (recsN []).length = DM.new room := by unfold DM.opened; exact if_pos rfl
  refine (r10Open_any hd hfit (by show (0 : Nat) < 1000000; omega) file h0 h64 [] [] (by simp) rfl rfl).mono ?_
  rintro e V' ⟨cs, rfl, hr, hb⟩
  rw [hop] at hr
  exact ⟨cs, rfl, ⟨DM.new room, [], 0, fd, hl.bel hb, hr, fun h => absurd h (by show ¬ (0 : Nat) < 0; omega), ⟨hfit, h0, h64, by show (0 : Nat) ≤ 1; omega, by simp, rfl⟩, hB.then_ hb, hf, fun _ h => h.elim⟩, hb⟩
end Go.Proofs.YtiajggmnfaidjaaGreatDoor
set_option linter.unusedVariables false
set_option linter.unusedSimpArgs false
set_option linter.unusedVariables false
set_option linter.unusedSimpArgs false
namespace Go.Proofs.YtiajggmnfaidjaaGreatDoor
open Go.RowKit

theorem wp_cutP {P : Program} {c : Code} {Q : Exit → Act → World → Prop} {a : Act} {w : World} (F : Nat → Nat → Array Value → Act) (R : Nat → Nat → Array Value → World → Prop)
    (h : c.wp P (fun e a' V => ∃ bx bl cs, e = .normal ∧ a' = F bx bl cs ∧ R bx bl cs V) a w) (k : ∀ bx bl cs V, R bx bl cs V → Q .normal (F bx bl cs) V) : c.wp P Q a w :=
  Code.wp_mono (fun e a' V h => by obtain ⟨bx, bl, cs, rfl, rfl, hr⟩ := h; exact k _ _ _ _ hr) h
theorem wp_nameP {P : Program} {c : Code} {Q : Exit → Act → World → Prop} {a : Act} {w : World} (h : ∀ V, V = w → c.wp P Q a V) : c.wp P Q a w := h w rfl
/-- What holds throughout a call's region. -/
structure PlayS (w : World) (bw : Nat) (cs : Array Value) (V : World) : Prop where
  bel : Bel w V
  row : V.heap[bw]? = some (.cells cs 38 (0, 0))
section
variable {w V V' : World} {bw : Nat} {cs : Array Value}
theorem PlayS.then_ (h : PlayS w bw cs V) (hb : Bel V V') : PlayS w bw cs V' := ⟨h.bel.then_ hb, hb.deferred h.row⟩
theorem PlayS.alloc (h : PlayS w bw cs V) (o : Obj) : PlayS w bw cs (V.alloc o) := h.then_ ((Bel.refl V).alloc o)
theorem PlayS.put (h : PlayS w bw cs V) {b : Nat} (hb : w.heap.size ≤ b) (hne : b ≠ bw) (cs' : Array Value) : PlayS w bw cs (V.setRow b cs') := ⟨below_setRow h.bel hb cs', (setRow_other _ _ _ _ (fun e => hne e.symm)).trans h.row⟩
theorem PlayS.range (h : PlayS w bw cs V) : V.rangeAt bw 0 cs.toList := fun j v hv => by
  rw [Nat.zero_add, Blk.cell h.row j]
  simpa using hv
theorem PlayS.lt (h : PlayS w bw cs V) : bw < V.heap.size := (Array.getElem?_eq_some_iff.1 h.row).1
end
set_option maxRecDepth 100000 in
set_option maxHeartbeats 8000000 in
theorem lplays_any (room file : Int) (A : Option Addr) (cap : Nat) (L : List C10) (hm : L.length ≤ maxLen) (hLm : ∀ x ∈ L, x.s.length ≤ maxLen) (w : World) (hg : ErrType w) (hL : Calls10 w A L) :
    Calls Tryz.prog 3 #[.int .i64 room, .int .i64 file, .slice A L.length cap] w fun e w' => e = .returned (.bool true) ∧ Bel w w' := by
  have HLM := Lib.hid hLm
  have HL := Lib.hid hL
  have HG := Lib.hid hg
  have HW := fun w' (hb : Bel w w') => Lib.hid (l10works_any w' (hg.bel hb))
  have HFEW := Lib.hid (few10_any 30 (by omega) A cap L hm hLm w hL)
  have hmI : (L.length : Int) ≤ 9223372036854775807 := by unfold maxLen at hm; omega
  by_cases hroom : room < 1 ∨ 3000 < room
  · clear hg hL hm hLm HFEW
    rcases hroom with h | h
    · go_enter Tryz.func3, Tryz.ntmps3
      go_wp2_with fail
      refine (HW _ (Bel.refl _)).out.mono ?_
      rintro e w1 ⟨rfl, hb⟩
      go_wp2
      go_ret
      exact ⟨rfl, hb⟩
    · have h1 : ¬ room < 1 := by omega
      have h2 : decide (room < 1) = false := decide_eq_false h1
      go_enter Tryz.func3, Tryz.ntmps3
      go_wp2_with fail
      refine (HW _ (Bel.refl _)).out.mono ?_
      rintro e w1 ⟨rfl, hb⟩
      go_wp2
      go_ret
      exact ⟨rfl, hb⟩
  have hr1 : 1 ≤ room := by omega
  have hr2 : room ≤ 3000 := by omega
  have hd1 : decide (room < 1) = false := decide_eq_false (by omega)
  have hd2 : decide (3000 < room) = false := decide_eq_false (by omega)
  by_cases hfew : L.length ≤ 30 ∧ ∀ x ∈ L, x.s.length ≤ 60
  · rw [decide_eq_true hfew] at HFEW
    have HFW := Lib.hid hfew
    have hLI : (L.length : Int) ≤ 30 := by omega
    clear hg hL hm hLm hfew hroom
    by_cases hfl : file < 0 ∨ 63 < file
    · rcases hfl with h | h
      · go_enter Tryz.func3, Tryz.ntmps3
        go_wp2_with (first
          | (go_at_call 4; refine HFEW.out.mono ?_; rintro e w' ⟨rfl, rfl⟩)
          | (go_at_call 6; refine (new_any room hr1 (by omega) _).mono ?_; rintro e w1 ⟨bd, fp, rfl, hD, hf, hb1⟩
             have HOP := Lib.hid (lopen_out hD (RFit.new room hr1 (by omega)).fit (HG.out.bel hb1) file (by omega))
             have HB1 := Lib.hid hb1
             clear hD hf hb1)
          | (go_at_call 7; refine HOP.out.mono ?_; rintro e w2 ⟨rfl, hb2⟩; have HB2 := Lib.hid (HB1.out.then_ hb2); clear hb2)
          | (go_at_call 8; refine (num10_any _ _).mono ?_; rintro e w' ⟨rfl, rfl⟩)
          | (go_at_call 5; refine (HW _ HB2.out).out.mono ?_; rintro e w3 ⟨rfl, hb3⟩; have HB3 := Lib.hid (HB2.out.then_ hb3); clear hb3))
        go_ret
        exact ⟨rfl, HB3.out⟩
      · have h1 : ¬ file < 0 := by omega
        have h2 : decide (file < 0) = false := decide_eq_false h1
        go_enter Tryz.func3, Tryz.ntmps3
        go_wp2_with (first
          | (go_at_call 4; refine HFEW.out.mono ?_; rintro e w' ⟨rfl, rfl⟩)
          | (go_at_call 6; refine (new_any room hr1 (by omega) _).mono ?_; rintro e w1 ⟨bd, fp, rfl, hD, hf, hb1⟩
             have HOP := Lib.hid (lopen_out hD (RFit.new room hr1 (by omega)).fit (HG.out.bel hb1) file (by omega))
             have HB1 := Lib.hid hb1
             clear hD hf hb1)
          | (go_at_call 7; refine HOP.out.mono ?_; rintro e w2 ⟨rfl, hb2⟩; have HB2 := Lib.hid (HB1.out.then_ hb2); clear hb2)
          | (go_at_call 8; refine (num10_any _ _).mono ?_; rintro e w' ⟨rfl, rfl⟩)
          | (go_at_call 5; refine (HW _ HB2.out).out.mono ?_; rintro e w3 ⟨rfl, hb3⟩; have HB3 := Lib.hid (HB2.out.then_ hb3); clear hb3))
        go_ret
        exact ⟨rfl, HB3.out⟩
    · have hf0 : 0 ≤ file := by omega
      have hf64 : file < 64 := by omega
      have hf63 : file ≤ 63 := by omega
      have hq0 : decide (file < 0) = false := decide_eq_false (by omega)
      have hq1 : decide (63 < file) = false := decide_eq_false (by omega)
      have HRN := Lib.hid (fun V => rNew_any room V)
      clear hfl
      go_enter Tryz.func3, Tryz.ntmps3
      go_wp2_with (first
        | (go_at_call 4; refine HFEW.out.mono ?_; rintro e w' ⟨rfl, rfl⟩)
        | (go_at_call 6; refine (new_any room hr1 (by omega) _).mono ?_; rintro e w1 ⟨bd, fp, rfl, hD, hf, hb1⟩
           have HST := Lib.hid (play_start hr1 (by omega) hD hf hb1 HG.out file hf0 hf64)
           clear hD hf hb1)
        | (go_at_call 7; refine HST.out.mono ?_; rintro e w2 ⟨bl, rfl, hbl, ⟨fd, hl2, hf2⟩, hb2⟩
           have HL2 := Lib.hid hl2
           have HF2 := Lib.hid hf2
           have HB2 := Lib.hid hb2
           clear hbl hl2 hf2 hb2)
        | (go_at_call 10; refine (HRN.out _).mono ?_; rintro e w3 ⟨ds, rfl, hd3, hb3⟩
           have HWN := Lib.hid (play_want hr1 (by omega) hf0 hf64 (HL2.out.bel hb3) HF2.out (HB2.out.then_ hb3) hd3)
           clear hd3 hb3)
        | (go_at_call 9; refine HWN.out.mono ?_; rintro e w4 ⟨cs, rfl, hp4, hb4⟩
           have HP4 := Lib.hid hp4
           have HI4 := Lib.hid hp4.info
           clear hp4 hb4)
        | (refine wpList_store_row rfl 38 (.tmp 11) (.tmp 63) rfl w4.heap.size cs rfl rfl _ _ (World.alloc_heap_new _ _) HI4.out.1 HI4.out.2.1 HI4.out.2.2 ?_
           rw [World.setRow_alloc_new]
           obtain ⟨W5, hW5⟩ : ∃ W5, W5 = w4.alloc (.cells cs 38) := ⟨_, rfl⟩
           rw [← hW5]
           have HP5 : Hid (PlayIs w W5 bl bd file cs 1 (fun b => b = w4.heap.size)) := by show PlayIs _ _ _ _ _ _ _ _; rw [hW5]; exact (HP4.out.new _).mono (fun b h => .inr h)
           have HE5 : Hid (W5.heap[w4.heap.size]? = some (.cells cs 38 (0, 0))) := by show _ = _; rw [hW5]; exact World.alloc_heap_new _ _
           have HS5 : Hid (w.heap.size ≤ w4.heap.size ∧ w4.heap.size < W5.heap.size) := ⟨HP4.out.old.size, by rw [hW5]; simp⟩
           clear hW5)
        | (go_at_call 8; refine (num10_any _ _).mono ?_; rintro e w' ⟨rfl, rfl⟩))
      obtain ⟨bw, hbw⟩ : ∃ bw, bw = w4.heap.size := ⟨_, rfl⟩
      rw [← hbw] at HP5 HE5 HS5 ⊢
      clear hbw
      go_loopw [9, 12] (fun g i wr => ∃ (j bl' : Nat) (cs' : Array Value), j ≤ L.length ∧ i = .int .i64 j ∧ g = .pointer (some ⟨bl', 0, none⟩) ∧ Hid (PlayIs w wr bl' bd file cs' (1 + 2 * j) (fun b => b = bw)) ∧ Hid (wr.heap[bw]? = some (.cells cs' 38 (0, 0)))) (fun g i _ => L.length - (intOf i).toNat)
      case atStart => exact ⟨0, bl, cs, Nat.zero_le _, rfl, rfl, HP5.out, HE5.out⟩
      case round =>
        obtain ⟨j, bl', cs', hj, rfl, rfl, HP, HE⟩ := hrel
        have HI := Lib.hid HP.out.info
        have HNB := Lib.hid HP.out.nobool
        by_cases hlt : j < L.length
        · obtain ⟨x, hx⟩ : ∃ x, L[j]? = some x := ⟨_, List.getElem?_eq_getElem hlt⟩
          have HXS := Lib.hid (HFW.out.2 x (List.mem_of_getElem? hx))
          obtain ⟨g, off, rfl, Ab, cb, q0, q1, q2, q3, -, hrd⟩ := HL.out.at_ (Bel.refl w) hx
          have HRD := Lib.hid hrd
          have HC : Hid (∀ V, Bel w V → V.cell? ⟨g, off + j * 4, none⟩ = some (.int .i64 x.what) ∧ V.cell? ⟨g, off + j * 4 + 1, none⟩ = some (.int .i64 x.keep) ∧ V.cell? ⟨g, off + j * 4 + 2, none⟩ = some (.int .i64 x.torn) ∧ V.cell? ⟨g, off + j * 4 + 3, none⟩ = some (.slice Ab x.s.length cb)) := fun V hb => ⟨hb.c q0, hb.c q1, hb.c q2, hb.c q3⟩
          have hjI : (j : Int) < L.length := by omega
          have hj30 : (j : Int) ≤ 30 := by omega
          have hbwlt : bw < wr.heap.size := (Array.getElem?_eq_some_iff.1 HE.out).1
          have HPD := Lib.hid (HP.out.bel ((Bel.refl wr).drew))
          have hS0 : PlayS w bw cs' wr.drew := ⟨HP.out.old.drew, HE.out⟩
          clear hx hrd q0 q1 q2 q3
          go_wp2_with fail
          refine wp_region_noPanic ?_
          refine wp_region_held_drew (S := (PlayS w bw cs')) (by kernel_rfl) ?_ (fun hHr1_0 => ?_)
          · (try dsimp only); (first | assumption | exact hS0 | exact hS4 | exact PlayS.alloc (by assumption) _ | exact PlayS.put (by assumption) hle hne _)
          refine tk 0 ?_
          refine tk 1 ?_
          refine tkl 2 cs' 38 bw ?_ (fun V h => h.range) Tryz.underlying38 HI.out.1
          refine tk 3 ?_
          refine tk 4 ?_
          refine tk 5 ?_
          refine tk 6 ?_ (hy := by (intro V h; obtain ⟨z0, z1, z2, z3⟩ := HC.out V h.bel; go_simp; try with_reducible rfl))
          refine wpAnyH_ready (rs := [7, 12]) (by kernel_rfl) (by simp) ?_
          refine AllReadyH.cons (o := _) rfl (fun K hK => ?_) (AllReadyH.cons (o := _) rfl (fun K hK => ?_) (AllReadyH.nil))
          focus
            go_simp
            (go_at_call 11; refine (play_act HPD.out (by omega) (fun b hb => by subst hb; exact hbwlt) HG.out x.what x.keep x.torn Ab cb x.s HXS.out HRD.out).mono ?_; rintro e w6 ⟨bl2, cs2, rfl, hp6, hk6, hs6⟩; have hS4 : PlayS w bw cs' w6 := ⟨hp6.old, (hk6 bw rfl).trans HE.out⟩)
            try (go_wp2_with fail)
            refine hK.out _ _ ?_ (fun hHr1_1 => ?_)
            · (try dsimp only); (first | assumption | exact hS0 | exact hS4 | exact PlayS.alloc (by assumption) _ | exact PlayS.put (by assumption) hle hne _)
            clear hK K hHr1_0
            try simp only [tkp0, tkp1, tkp2, tkp3, tkp4, tkp5, tkp6, tkp7]
            refine tk 8 ?_
            refine tk 9 ?_
            refine tk 10 ?_
            refine tk 11 ?_
            refine rd1 12 (fun K hK => ?_)
            go_simp
            refine hK.out _ _ ?_ (fun hHr1_2 => ?_)
            · (try dsimp only); (first | assumption | exact hS0 | exact hS4 | exact PlayS.alloc (by assumption) _ | exact PlayS.put (by assumption) hle hne _)
            clear hK K hHr1_1
            try simp only [tkp0, tkp1, tkp2, tkp3, tkp4, tkp5, tkp6, tkp7]
            refine rd1 13 (fun K hK => ?_)
            go_simp
            refine hK.out _ _ ?_ (fun hHr1_3 => ?_)
            · (try dsimp only); (first | assumption | exact hS0 | exact hS4 | exact PlayS.alloc (by assumption) _ | exact PlayS.put (by assumption) hle hne _)
            clear hK K hHr1_2
            try simp only [tkp0, tkp1, tkp2, tkp3, tkp4, tkp5, tkp6, tkp7]
            refine rd1 14 (fun K hK => ?_)
            rw [if_pos (by first | rfl | kernel_rfl)]
            have hpa := hp6.new (.cells Tryz.zeroCells38 38); have hz := World.alloc_heap_new w6 (.cells Tryz.zeroCells38 38); have hle : w.heap.size ≤ w6.heap.size := hp6.old.size; have hne : w6.heap.size ≠ bw := (by have := hS4.lt; omega); refine wp_store_row _ _ _ rfl w6.heap.size cs2 rfl rfl _ _ hz hp6.info.1 hp6.info.2.1 hp6.info.2.2 ?_
            refine hK.out _ _ ?_ (fun hHr1_4 => ?_)
            · (try dsimp only); (first | assumption | exact hS0 | exact hS4 | exact PlayS.alloc (by assumption) _ | exact PlayS.put (by assumption) hle hne _)
            clear hK K hHr1_3
            try simp only [tkp0, tkp1, tkp2, tkp3, tkp4, tkp5, tkp6, tkp7]
            refine rd1 15 (fun K hK => ?_)
            go_simp
            refine hK.out _ _ ?_ (fun hHr1_5 => ?_)
            · (try dsimp only); (first | assumption | exact hS0 | exact hS4 | exact PlayS.alloc (by assumption) _ | exact PlayS.put (by assumption) hle hne _)
            clear hK K hHr1_4
            try simp only [tkp0, tkp1, tkp2, tkp3, tkp4, tkp5, tkp6, tkp7]
            refine wpAnyH_done (by kernel_rfl) ?_ _
            refine NoPanic.normal ?_
            (obtain ⟨V8, hV8⟩ : ∃ V, V = World.setRow (w6.alloc (.cells Tryz.zeroCells38 38)) w6.heap.size cs2 := ⟨_, rfl⟩; rw [← hV8]; have HP8 : Hid (PlayIs w V8 bl2 bd file cs2 (1 + 2 * j + 2) (fun b => b = bw ∨ b = w6.heap.size)) := (by show PlayIs _ _ _ _ _ _ _ _; rw [hV8]; exact hpa.put (.inr rfl) hle hz zeroL_nobool cs2); have HZ8 : Hid (V8.heap[w6.heap.size]? = some (.cells cs2 38 (0, 0))) := (by show _ = _; rw [hV8]; exact setRow_heap _ _ _ _ _ _ hz); have HR8 : Hid (V8.heap[bw]? = some (.cells cs' 38 (0, 0))) := (by show _ = _; rw [hV8]; exact ((hS4.alloc (.cells Tryz.zeroCells38 38)).put hle hne cs2).row); have HI2 := Lib.hid hp6.info; have HNE : Hid (w6.heap.size ≠ bw) := hne; obtain ⟨b14, hb14⟩ : ∃ b, b = w6.heap.size := ⟨_, rfl⟩; rw [← hb14] at HP8 HZ8 HNE ⊢; clear hV8 hb14 hz hle hne hp6 hk6 hs6 hS4 hpa)
          rotate_left
          focus
            go_simp
            refine hK.out _ _ ?_ (fun hHr1_1 => ?_)
            · (try dsimp only); (first | assumption | exact hS0 | exact hS4 | exact PlayS.alloc (by assumption) _ | exact PlayS.put (by assumption) hle hne _)
            clear hK K hHr1_0
            try simp only [tkp0, tkp1, tkp2, tkp3, tkp4, tkp5, tkp6, tkp7]
            refine rd1 7 (fun K hK => ?_)
            go_simp
            (go_at_call 11; refine (play_act (HPD.out.new (.cells Tryz.zeroCells38 38)) (by omega) (fun b hb => hb.elim (fun h => by subst h; simp; omega) (fun h => by subst h; simp)) HG.out x.what x.keep x.torn Ab cb x.s HXS.out HRD.out).mono ?_; rintro e w6 ⟨bl2, cs2, rfl, hp6, hk6, hs6⟩; have hS4 : PlayS w bw cs' w6 := ⟨hp6.old, (hk6 bw (.inl rfl)).trans (PlayS.alloc hS0 (.cells Tryz.zeroCells38 38)).row⟩)
            try (go_wp2_with fail)
            refine hK.out _ _ ?_ (fun hHr1_2 => ?_)
            · (try dsimp only); (first | assumption | exact hS0 | exact hS4 | exact PlayS.alloc (by assumption) _ | exact PlayS.put (by assumption) hle hne _)
            clear hK K hHr1_1
            try simp only [tkp0, tkp1, tkp2, tkp3, tkp4, tkp5, tkp6, tkp7]
            refine tk 8 ?_
            refine tk 9 ?_
            refine tk 10 ?_
            refine tk 11 ?_
            refine rd1 13 (fun K hK => ?_)
            go_simp
            refine hK.out _ _ ?_ (fun hHr1_3 => ?_)
            · (try dsimp only); (first | assumption | exact hS0 | exact hS4 | exact PlayS.alloc (by assumption) _ | exact PlayS.put (by assumption) hle hne _)
            clear hK K hHr1_2
            try simp only [tkp0, tkp1, tkp2, tkp3, tkp4, tkp5, tkp6, tkp7]
            refine rd1 14 (fun K hK => ?_)
            rw [if_pos (by first | rfl | kernel_rfl)]
            have hz : w6.heap[wr.heap.size]? = some (.cells Tryz.zeroCells38 38 (0, 0)) := (hk6 wr.heap.size (.inr rfl)).trans (World.alloc_heap_new wr.drew (.cells Tryz.zeroCells38 38)); have hle : w.heap.size ≤ wr.heap.size := HP.out.old.size; have hne : wr.heap.size ≠ bw := (by omega); refine wp_store_row _ _ _ rfl wr.heap.size cs2 rfl rfl _ _ hz hp6.info.1 hp6.info.2.1 hp6.info.2.2 ?_
            refine hK.out _ _ ?_ (fun hHr1_4 => ?_)
            · (try dsimp only); (first | assumption | exact hS0 | exact hS4 | exact PlayS.alloc (by assumption) _ | exact PlayS.put (by assumption) hle hne _)
            clear hK K hHr1_3
            try simp only [tkp0, tkp1, tkp2, tkp3, tkp4, tkp5, tkp6, tkp7]
            refine rd1 15 (fun K hK => ?_)
            go_simp
            refine hK.out _ _ ?_ (fun hHr1_5 => ?_)
            · (try dsimp only); (first | assumption | exact hS0 | exact hS4 | exact PlayS.alloc (by assumption) _ | exact PlayS.put (by assumption) hle hne _)
            clear hK K hHr1_4
            try simp only [tkp0, tkp1, tkp2, tkp3, tkp4, tkp5, tkp6, tkp7]
            refine wpAnyH_done (by kernel_rfl) ?_ _
            refine NoPanic.normal ?_
            (obtain ⟨V8, hV8⟩ : ∃ V, V = World.setRow w6 wr.heap.size cs2 := ⟨_, rfl⟩; rw [← hV8]; have HP8 : Hid (PlayIs w V8 bl2 bd file cs2 (1 + 2 * j + 2) (fun b => b = bw ∨ b = wr.heap.size)) := (by show PlayIs _ _ _ _ _ _ _ _; rw [hV8]; exact hp6.put (.inr rfl) hle hz zeroL_nobool cs2); have HZ8 : Hid (V8.heap[wr.heap.size]? = some (.cells cs2 38 (0, 0))) := (by show _ = _; rw [hV8]; exact setRow_heap _ _ _ _ _ _ hz); have HR8 : Hid (V8.heap[bw]? = some (.cells cs' 38 (0, 0))) := (by show _ = _; rw [hV8]; exact (hS4.put hle hne cs2).row); have HI2 := Lib.hid hp6.info; have HNE : Hid (wr.heap.size ≠ bw) := hne; obtain ⟨b14, hb14⟩ : ∃ b, b = wr.heap.size := ⟨_, rfl⟩; rw [← hb14] at HP8 HZ8 HNE ⊢; clear hV8 hb14 hz hle hne hp6 hk6 hs6 hS4)
          all_goals
            have hsz8 : cs'.size = cs2.size := Option.some.inj (HI.out.1.symm.trans HI2.out.1)
            have hT0 : Act8 bw b14 cs2 V8.drew := ⟨HZ8.out, cs', HR8.out, hsz8⟩
            have HPI := Lib.hid HP8.out.info
            go_wp2_with fail
            refine wp_region_noPanic ?_
            refine wp_region_held_drew (S := (Act8 bw b14 cs2)) (by kernel_rfl) ?_ (fun hHr2_0 => ?_)
            · (try dsimp only); (first | exact hT0 | assumption | exact Act8.put (by assumption) HNE.out)
            refine tk 0 ?_
            refine tkl 1 cs2 38 b14 ?_ (fun V h => h.range) Tryz.underlying38 HI2.out.1
            refine rd1 2 (fun K hK => ?_)
            go_simp
            refine hK.out _ _ ?_ (fun hHr2_1 => ?_)
            · (try dsimp only); (first | exact hT0 | assumption | exact Act8.put (by assumption) HNE.out)
            clear hK K hHr2_0
            try simp only [tkp0, tkp1, tkp2, tkp3, tkp4, tkp5, tkp6, tkp7]
            refine rd1 3 (fun K hK => ?_)
            rw [if_pos (by first | rfl | kernel_rfl)]
            refine wp_store_row _ _ _ rfl bw cs2 rfl rfl _ cs' HR8.out HI2.out.1 hsz8 HI2.out.2.2 ?_
            refine hK.out _ _ ?_ (fun hHr2_2 => ?_)
            · (try dsimp only); (first | exact hT0 | assumption | exact Act8.put (by assumption) HNE.out)
            clear hK K hHr2_1
            try simp only [tkp0, tkp1, tkp2, tkp3, tkp4, tkp5, tkp6, tkp7]
            refine wpAnyH_done (by kernel_rfl) ?_ _
            refine NoPanic.normal ?_
            obtain ⟨V9, hV9⟩ : ∃ V9, V9 = World.setRow V8.drew bw cs2 := ⟨_, rfl⟩
            rw [← hV9]
            have HP9 : Hid (PlayIs w V9 bl2 bd file cs2 (1 + 2 * j + 2) (fun b => b = bw)) := by show PlayIs _ _ _ _ _ _ _ _; rw [hV9]; exact ((HP8.out.bel ((Bel.refl V8).drew)).put (.inl rfl) HS5.out.1 HR8.out HNB.out cs2).mono (fun b h => .inl h)
            have HE9 : Hid (V9.heap[bw]? = some (.cells cs2 38 (0, 0))) := by show _ = _; rw [hV9]; exact setRow_heap _ _ _ _ _ _ HR8.out
            have hU0 : PlayS w bw cs2 V9.drew := ⟨HP9.out.old.drew, HE9.out⟩
            have HPD9 := Lib.hid (HP9.out.bel ((Bel.refl V9).drew))
            clear hV9 hT0
            by_cases h3 : j % 3 = 2
            · have ht3 : ((j : Int).tmod 3) = 2 := by have htm : (j : Int).tmod 3 = ((j % 3 : Nat) : Int) := rfl; rw [htm]; omega
              go_wp2_with fail
              refine wp_region_noPanic ?_
              refine wp_region_held_drew (S := (PlayS w bw cs2)) (by kernel_rfl) ?_ (fun hHr3_0 => ?_)
              · (try dsimp only); (first | exact hU0 | assumption | exact hS9 | exact hS10)
              refine tk 0 ?_
              refine tk 1 ?_
              refine tk 2 ?_
              refine tk 3 ?_
              refine tk 4 ?_
              refine tk 5 ?_
              refine tk 6 ?_
              refine tk 7 ?_
              refine tkl 8 cs2 38 bw ?_ (fun V h => h.range) Tryz.underlying38 HI2.out.1
              refine tk 9 ?_
              refine tk 10 ?_
              refine rd1 11 (fun K hK => ?_)
              go_simp
              (go_at_call 12; refine (play_is HPD9.out _ _).mono ?_; rintro e w9 ⟨rfl, hb9⟩; have hS9 : PlayS w bw cs2 w9 := hU0.then_ hb9)
              try (go_wp2_with fail)
              refine hK.out _ _ ?_ (fun hHr3_1 => ?_)
              · (try dsimp only); (first | exact hU0 | assumption | exact hS9 | exact hS10)
              clear hK K hHr3_0
              try simp only [tkp0, tkp1, tkp2, tkp3, tkp4, tkp5, tkp6, tkp7]
              refine tk 12 ?_
              refine tk 13 ?_
              refine tk 14 ?_
              refine tk 15 ?_
              refine tk 16 ?_
              refine tkl 17 cs2 38 bw ?_ (fun V h => h.range) Tryz.underlying38 HI2.out.1
              refine tk 18 ?_
              refine tk 19 ?_
              refine tk 20 ?_
              refine tk 21 ?_
              refine tk 22 ?_ (hy := by (intro V h; obtain ⟨z0, z1, z2, z3⟩ := HC.out V h.bel; go_simp; try with_reducible rfl))
              refine rd1 23 (fun K hK => ?_)
              go_simp
              (go_at_call 12; refine (play_is (HPD9.out.bel hb9) _ _).mono ?_; rintro e w10 ⟨rfl, hb10⟩; have hS10 : PlayS w bw cs2 w10 := hS9.then_ hb10)
              try (go_wp2_with fail)
              refine hK.out _ _ ?_ (fun hHr3_2 => ?_)
              · (try dsimp only); (first | exact hU0 | assumption | exact hS9 | exact hS10)
              clear hK K hHr3_1
              try simp only [tkp0, tkp1, tkp2, tkp3, tkp4, tkp5, tkp6, tkp7]
              refine tk 24 ?_
              refine tk 25 ?_
              refine wpAnyH_done (by kernel_rfl) ?_ _
              refine NoPanic.normal ?_
              have HPE := Lib.hid ((HPD9.out.bel hb9).bel hb10)
              have HRE := Lib.hid hS10.row
              clear hb9 hb10 hS9 hS10 hU0
              go_wp2
              go_roundw
              case rel => exact ⟨j + 1, bl2, cs2, by omega, by go_num, by first | rfl | trivial, by rw [show 1 + 2 * (j + 1) = 1 + 2 * j + 2 by omega]; exact HPE.out, HRE.out⟩
              case measure => simp [intOf]; omega
            · have ht3 : ¬ ((j : Int).tmod 3) = 2 := by have htm : (j : Int).tmod 3 = ((j % 3 : Nat) : Int) := rfl; rw [htm]; omega
              have hb3 : ((j : Int).tmod 3 == 2) = false := by rw [beq_eq_false_iff_ne]; exact ht3
              go_wp2_with fail
              refine wp_region_noPanic ?_
              refine wp_region_held_drew (S := (PlayS w bw cs2)) (by kernel_rfl) ?_ (fun hHr4_0 => ?_)
              · (try dsimp only); (first | exact hU0 | assumption | exact hS10)
              refine tk 0 ?_
              refine tk 1 ?_
              refine tk 2 ?_
              refine tk 3 ?_
              refine tk 4 ?_
              refine tk 5 ?_
              refine tk 6 ?_
              refine tn 7 ?_
              refine tn 8 ?_
              refine tn 9 ?_
              refine tn 10 ?_
              refine tn 11 ?_
              refine tn 12 ?_
              refine tk 13 ?_
              refine tk 14 ?_
              refine tk 15 ?_
              refine tk 16 ?_
              refine tkl 17 cs2 38 bw ?_ (fun V h => h.range) Tryz.underlying38 HI2.out.1
              refine tk 18 ?_
              refine tk 19 ?_
              refine tk 20 ?_
              refine tk 21 ?_
              refine tk 22 ?_ (hy := by (intro V h; obtain ⟨z0, z1, z2, z3⟩ := HC.out V h.bel; go_simp; try with_reducible rfl))
              refine rd1 23 (fun K hK => ?_)
              go_simp
              (go_at_call 12; refine (play_is HPD9.out _ _).mono ?_; rintro e w10 ⟨rfl, hb10⟩; have hS10 : PlayS w bw cs2 w10 := hU0.then_ hb10)
              try (go_wp2_with fail)
              refine hK.out _ _ ?_ (fun hHr4_1 => ?_)
              · (try dsimp only); (first | exact hU0 | assumption | exact hS10)
              clear hK K hHr4_0
              try simp only [tkp0, tkp1, tkp2, tkp3, tkp4, tkp5, tkp6, tkp7]
              refine tk 24 ?_
              refine tk 25 ?_
              refine wpAnyH_done (by kernel_rfl) ?_ _
              refine NoPanic.normal ?_
              have HPE := Lib.hid (HPD9.out.bel hb10)
              have HRE := Lib.hid hS10.row
              clear hb10 hS10 hU0
              go_wp2
              go_roundw
              case rel => exact ⟨j + 1, bl2, cs2, by omega, by go_num, by first | rfl | trivial, by rw [show 1 + 2 * (j + 1) = 1 + 2 * j + 2 by omega]; exact HPE.out, HRE.out⟩
              case measure => simp [intOf]; omega
        · obtain rfl : j = L.length := by omega
          go_wp2_with (first
            | (refine wpList_load_row rfl 38 (.tmp 11) rfl bw rfl _ cs' (0, 0) _ HE.out Tryz.underlying38 rfl HI.out.1 ?_)
            | (go_at_call 12; refine (play_is HP.out _ _).mono ?_; rintro e w6 ⟨rfl, hb6⟩; have HB6 := Lib.hid (HP.out.old.then_ hb6); clear hb6)
            | (go_at_call 5; refine (HW _ HB6.out).out.mono ?_; rintro e w7 ⟨rfl, hb7⟩; have HB7 := Lib.hid (HB6.out.then_ hb7); clear hb7))
          go_ret
          exact ⟨rfl, HB7.out⟩
  · rw [decide_eq_false hfew] at HFEW
    clear hg hL hm hLm hfew hroom
    go_enter Tryz.func3, Tryz.ntmps3
    go_wp2_with (go_at_call 4; refine HFEW.out.mono ?_; rintro e w' ⟨rfl, rfl⟩)
    refine (HW _ (Bel.refl _)).out.mono ?_
    rintro e w1 ⟨rfl, hb⟩
    go_wp2
    go_ret
    exact ⟨rfl, hb⟩
end Go.Proofs.YtiajggmnfaidjaaGreatDoor
