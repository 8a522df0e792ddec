/-
  DiskHolds: a call by both.
-/
import Derived.Test.YthmigmiojifnkaaDoorRe
import Derived.Test.YthmigmiojifnkaaDoorCy
import Derived.Test.YthmigmiojifnkaaDoorLv
import Derived.Deep.MidRow
set_option linter.unusedVariables false
set_option linter.unusedSimpArgs false
set_option linter.unusedVariables false
set_option linter.unusedSimpArgs false
namespace Go.Proofs.YthmigmiojifnkaaDoor
open Go.RowKit

/-- What a call makes of the disk (a crash is none of these). -/
def DM.act (m : DM) (what file n : Int) (s : List UInt8) : DM := if what = 0 ∨ what = 1 ∨ what = 2 then (m.append file s).1 else if what = 3 then (m.cut file n).1 else if what = 4 then m.sync else m
def GivesAct (m' : DM) (fp : Nat → Prop) (w : World) (e : Ending) (w' : World) : Prop := ∃ bd cs b fp', e = .returned (.tuple #[.pointer (some ⟨bd, 0, none⟩), .agg cs, .bool b]) ∧ DiskIs w' bd m' fp' ∧ Opp fp fp' w w'
/-- The blocks that a call lays first: the document's disk, the call, the result. -/
noncomputable def actW (w : World) (cs : Array Value) (x0 x1 x2 x3 x4 : Value) : World := ((w.alloc (.cells cs 37)).alloc (.cells #[x0, x1, x2, x3, x4] 33)).alloc (.cells Tryd.zeroCells37 37)
theorem actW_bel (w : World) (cs : Array Value) (x0 x1 x2 x3 x4 : Value) : Bel w (actW w cs x0 x1 x2 x3 x4) := (((Bel.refl w).alloc _).alloc _).alloc _
theorem actW_size (w : World) (cs : Array Value) (x0 x1 x2 x3 x4 : Value) : (actW w cs x0 x1 x2 x3 x4).heap.size = w.heap.size + 3 := by simp [actW]
theorem actW_fst (w : World) (cs : Array Value) (x0 x1 x2 x3 x4 : Value) : (actW w cs x0 x1 x2 x3 x4).heap[w.heap.size]? = some (.cells cs 37 (0, 0)) :=
  (((Bel.refl (w.alloc (.cells cs 37))).alloc _).alloc _).deferred (World.alloc_heap_new w _)
theorem actW_snd (w : World) (cs : Array Value) (x0 x1 x2 x3 x4 : Value) : (actW w cs x0 x1 x2 x3 x4).heap[w.heap.size + 1]? = some (.cells #[x0, x1, x2, x3, x4] 33 (0, 0)) := by
  have := World.alloc_heap_new (w.alloc (.cells cs 37)) (.cells #[x0, x1, x2, x3, x4] 33)
  rw [World.size_alloc] at this
  exact ((Bel.refl ((w.alloc (.cells cs 37)).alloc (.cells #[x0, x1, x2, x3, x4] 33))).alloc _).deferred this
theorem actW_thd (w : World) (cs : Array Value) (x0 x1 x2 x3 x4 : Value) : (actW w cs x0 x1 x2 x3 x4).heap[w.heap.size + 1 + 1]? = some (.cells Tryd.zeroCells37 37 (0, 0)) := by
  have := World.alloc_heap_new ((w.alloc (.cells cs 37)).alloc (.cells #[x0, x1, x2, x3, x4] 33)) (.cells Tryd.zeroCells37 37)
  rw [World.size_alloc, World.size_alloc] at this
  exact this
theorem results_row3 {fn : Func} {q p r : Tmp} (h : fn.results = #[.tmp q, .cell p 37, .tmp r]) (tmps : Array Value) (w : World) (g : Nat) (l : List Value) (u v : Value) (hq : tmps.getD q undef = u) (hp : tmps.getD p undef = .pointer (some ⟨g, 0, none⟩)) (hr : tmps.getD r undef = v)
    (hc : w.rangeAt g 0 l) (hi : (Tryd.prog.info? 37).map (·.size) = some l.length) : (results fn tmps).run Tryd.prog w = .ok (.tuple #[u, .agg l.toArray, v]) w := by
  have hp' : tmps[p]?.getD undef = .pointer (some ⟨g, 0, none⟩) := by simpa using hp
  have hq' : tmps[q]?.getD undef = u := by simpa using hq
  have hr' : tmps[r]?.getD undef = v := by simpa using hr
  simp [results, h, hp', hq', hr', asAddr, run_loadVar_mid (P := Tryd.prog) w g 0 37 l _ hc Tryd.underlying37 rfl hi]
theorem range_of_block {w : World} {g : Nat} {l : List Value} {T : TypeId} {fr : Nat × Nat} (h : w.heap[g]? = some (.cells l.toArray T fr)) : w.rangeAt g 0 l := fun j v hv => by
  simp only [World.cell?, h]
  simpa using hv
theorem there_of_block {w : World} {g n : Nat} {c : Array Value} {T : TypeId} (h : w.heap[g]? = some (.cells c T (0, 0))) (hn : c.size = n) : w.there g 0 n := fun j hj => by
  have hj' : j < c.size := by omega
  exact ⟨by simp [World.cell?, h, hj'], by simp [World.frozen?, h]⟩
theorem range_kept {w w' : World} {g : Nat} {l : List Value} (h : w.rangeAt g 0 l) (hk : w'.heap[g]? = w.heap[g]?) : w'.rangeAt g 0 l := fun j v hv => (World.cell?_of_block (a := ⟨g, 0 + j, none⟩) hk).trans (h j v hv)
theorem frozen_of_block {w w' : World} {g j : Nat} (hk : w'.heap[g]? = w.heap[g]?) : w'.frozen? ⟨g, j, none⟩ = w.frozen? ⟨g, j, none⟩ := by simp [World.frozen?, hk]
theorem there_kept {w w' : World} {g n : Nat} (h : w.there g 0 n) (hk : w'.heap[g]? = w.heap[g]?) : w'.there g 0 n := fun j hj => ⟨by rw [World.cell?_of_block (a := ⟨g, 0 + j, none⟩) hk]; exact (h j hj).1, by rw [frozen_of_block hk]; exact (h j hj).2⟩
theorem none_len {w : World} {B : Nat} {A : Option Addr} {n : Nat} {xs : List Value} (h : Reads w B 1 A n xs) (hA : A = none) : n = 0 := by
  rcases Nat.eq_zero_or_pos n with h0 | h0
  · exact h0
  · obtain ⟨ad, e, _⟩ := h.2 h0
    rw [hA] at e
    cases e
/-- What a region reads: two fields of the call, the document's disk; where its result goes. -/
def ActS (B g : Nat) (l : List Value) (i : Nat) (v : Value) (A : Value) (V : World) : Prop := V.cell? ⟨B + 1, 1, none⟩ = some v ∧ V.cell? ⟨B + 1, i, none⟩ = some A ∧ V.rangeAt g 0 l ∧ V.there (B + 1 + 1) 0 l.length
theorem ActS.opp {B g i : Nat} {l : List Value} {v A : Value} {V V' : World} {fp fp' : Nat → Prop} (h : ActS B g l i v A V) (hO : Opp fp fp' V V') (hB : B + 3 ≤ V.heap.size) (hg : g < V.heap.size) (hfp : ∀ b, fp b → b < B) (hgB : B ≤ g) : ActS B g l i v A V' := by
  obtain ⟨h1, h2, h3, h4⟩ := h
  have hk : ∀ k, k < V.heap.size → B ≤ k → V'.heap[k]? = V.heap[k]? := fun k hk hkB => hO.block k hk (fun hf => by have := hfp k hf; omega)
  exact ⟨(World.cell?_of_block (a := ⟨B + 1, 1, none⟩) (hk (B + 1) (by omega) (by omega))).trans h1, (World.cell?_of_block (a := ⟨B + 1, i, none⟩) (hk (B + 1) (by omega) (by omega))).trans h2, range_kept h3 (hk g hg hgB), there_kept h4 (hk (B + 1 + 1) (by omega) (by omega))⟩
theorem ActS.put {B g i : Nat} {l : List Value} {v A : Value} {V : World} (h : ActS B g l i v A V) (hg : g ≠ B + 1 + 1) : ActS B g l i v A (V.setCells (B + 1 + 1) 0 l) := by
  obtain ⟨h1, h2, h3, h4⟩ := h
  exact ⟨(World.cell?_setCells_out _ _ _ _ _ (fun e => by have e' : B + 1 = B + 1 + 1 := e; omega)).trans h1, (World.cell?_setCells_out _ _ _ _ _ (fun e => by have e' : B + 1 = B + 1 + 1 := e; omega)).trans h2, World.rangeAt_setCells_apart h3 _ _ _ (.inl hg), World.there_setCells h4 _ _ _⟩
theorem setCells_other (b : Nat) : ∀ (vs : List Value) (o : Nat) (w : World) (k : Nat), k ≠ b → (w.setCells b o vs).heap[k]? = w.heap[k]?
  | [], _, _, _, _ => rfl
  | v :: r, o, w, k, hk => by
    show ((w.setCell ⟨b, o, none⟩ v).setCells b (o + 1) r).heap[k]? = _
    rw [setCells_other b r (o + 1) _ k hk, Below.heap_setCell _ _ _ _ hk]
theorem setCells_size (b : Nat) : ∀ (vs : List Value) (o : Nat) (w : World), (w.setCells b o vs).heap.size = w.heap.size ∧ (w.setCells b o vs).os = w.os ∧ (w.setCells b o vs).tape = w.tape ∧ (w.setCells b o vs).output = w.output
  | [], _, _ => ⟨rfl, rfl, rfl, rfl⟩
  | v :: r, o, w => by
    obtain ⟨h1, h2, h3, h4⟩ := setCells_size b r (o + 1) (w.setCell ⟨b, o, none⟩ v)
    show ((w.setCell ⟨b, o, none⟩ v).setCells b (o + 1) r).heap.size = _ ∧ _
    exact ⟨h1.trans (by simp), h2.trans rfl, h3.trans rfl, h4.trans rfl⟩
/-- The end of a call: the result stored. -/
theorem act_end {w W w4 : World} {bd : Nat} {m' : DM} {fp fp4 : Nat → Prop} {l : List Value} {b : Bool} (hB : Bel w W) (hs : w.heap.size + 3 ≤ W.heap.size) (hD : DiskIs w4 bd m' fp4) (hO : Opp (fun b => fp b ∧ b < w.heap.size) fp4 W w4) :
    GivesAct m' fp w (.returned (.tuple #[.pointer (some ⟨bd, 0, none⟩), .agg l.toArray, .bool b])) (w4.setCells (w.heap.size + 1 + 1) 0 l) := by
  obtain ⟨z1, z2, z3, z4⟩ := setCells_size (w.heap.size + 1 + 1) l 0 w4
  have hoth := fun k hk => setCells_other (w.heap.size + 1 + 1) l 0 w4 k hk
  have h4 := hO.size
  have h5 := hB.size
  have hsub : ∀ b, fp4 b → (fp b ∧ b < w.heap.size) ∨ W.heap.size ≤ b := fun b hb => hO.sub b hb
  refine ⟨bd, l.toArray, b, fp4, rfl, hD.kept fun k hk _ => hoth k (fun e => by rcases hsub k hk with h | h <;> omega), ⟨z2.trans (hO.os.trans hB.os), z3.trans (hO.tape.trans hB.tape), z4.trans (hO.output.trans hB.output), by omega, fun k hk hn => ?_, fun b hb => (hsub b hb).elim (fun h => .inl h.1) (fun h => .inr (by omega))⟩⟩
  rw [hoth k (by omega), hO.block k (by omega) (fun h => hn h.1)]
  exact hB.block k hk
set_option maxRecDepth 100000 in
set_option maxHeartbeats 1000000 in
theorem act_append0 {w : World} {bd : Nat} {m : DM} {fp : Nat → Prop} {cs : Array Value} {mw : DM} (h : DiskIs w bd m fp) (hfit : Fit m) (hg : ErrType w) (hr : RDis w cs mw) (hrf : RFit mw) (hfew : mw.loose.length < 1000000) (file n torn : Int) (A : Option Addr) (cap : Nat) (s : List UInt8) (hc : A = none → cap = 0) (hs : s.length ≤ 60) (hrd : Reads w w.heap.size 1 A s.length (s.map bv)) :
    Calls Tryd.prog 12 #[.pointer (some ⟨bd, 0, none⟩), .agg cs, .agg #[.int .i64 0, .int .i64 file, .int .i64 n, .int .i64 torn, .slice A s.length cap]] w (GivesAct (m.append file s).1 fp w) := by
  have hb3 := actW_bel w cs (.int .i64 0) (.int .i64 file) (.int .i64 n) (.int .i64 torn) (.slice A s.length cap)
  have HA := Lib.hid (actW_fst w cs (.int .i64 0) (.int .i64 file) (.int .i64 n) (.int .i64 torn) (.slice A s.length cap))
  have HX := Lib.hid (actW_snd w cs (.int .i64 0) (.int .i64 file) (.int .i64 n) (.int .i64 torn) (.slice A s.length cap))
  have HZ := Lib.hid (actW_thd w cs (.int .i64 0) (.int .i64 file) (.int .i64 n) (.int .i64 torn) (.slice A s.length cap))
  have HSZ := Lib.hid hr.info
  have HRA := Lib.hid (rdAppend_any (hr.bel hb3) hrf hfew file s (by omega))
  have hcv := conv_reads cap (hrd.belHeap hb3)
  unfold strV at hcv
  unfold actW at hcv
  have HB3 := Lib.hid hb3
  have HD := Lib.hid h
  have HRD := Lib.hid hrd
  have HG := Lib.hid hg
  have HFIT := Lib.hid hfit
  have HCC := Lib.hid hc
  have hsI : (s.length : Int) ≤ 60 := by omega
  clear h hfit hg hr hrf hrd hb3 hc
  go_enter Tryd.func12, Tryd.ntmps12
  go_wp2_with (first
               | (refine wpList_load_row rfl 37 _ rfl w.heap.size rfl _ cs (0, 0) _ HA.out Tryd.underlying37 rfl HSZ.out ?_)
               | (go_at_call 27; refine HRA.out.mono ?_; rintro e w2 ⟨cs2', rfl, hr2, hb2⟩
                  obtain ⟨l2, rfl⟩ : ∃ l : List Value, cs2' = l.toArray := ⟨cs2'.toList, by simp⟩
                  have HI2 := Lib.hid hr2.info
                  have HO2 := Lib.hid hr2.one
                  have HZ2 := Lib.hid hr2.zsize
                  have HN2 := Lib.hid (World.alloc_heap_new w2 (.cells Tryd.zeroCells37 37))
                  have HB2 := Lib.hid hb2
                  clear hr2 hb2)
               | (refine wpList_store_row rfl 37 _ _ rfl w2.heap.size l2.toArray rfl rfl _ _ HN2.out HI2.out HZ2.out HO2.out ?_))
  obtain ⟨W, hW⟩ : ∃ W, W = (w2.alloc (.cells Tryd.zeroCells37 37)).setRow w2.heap.size l2.toArray := ⟨_, rfl⟩
  rw [← hW]
  have hb23 : Bel w2 W := by rw [hW]; exact below_setRow ((Bel.refl w2).alloc _) (Nat.le_refl _) _
  have hbW : Bel w W := (HB3.out.then_ HB2.out).then_ hb23
  have hbWd : Bel w W.drew := hbW.drew
  have hszW : W.heap.size = w2.heap.size + 1 := by rw [hW]; simp
  have hsz2 : w.heap.size + 3 ≤ w2.heap.size := by have := HB2.out.size; rw [actW_size] at this; exact this
  have hxb : W.heap[w.heap.size + 1]? = some (.cells #[.int .i64 0, .int .i64 file, .int .i64 n, .int .i64 torn, .slice A s.length cap] 33 (0, 0)) := hb23.deferred (HB2.out.deferred HX.out)
  have hzb : W.heap[w.heap.size + 1 + 1]? = some (.cells Tryd.zeroCells37 37 (0, 0)) := hb23.deferred (HB2.out.deferred HZ.out)
  have hob : W.heap[w2.heap.size]? = some (.cells l2.toArray 37 (0, 0)) := by rw [hW]; exact setRow_heap _ _ _ _ _ _ HN2.out
  have hu37 := Tryd.underlying37
  have hi37 : (Tryd.prog.info? 37).map (·.size) = some l2.length := by have := HI2.out; rw [List.size_toArray] at this; exact this
  have hone2 : ∀ v ∈ l2, v.oneCell' = true := fun v hv => Array.all_eq_true_iff_forall_mem.1 HO2.out v (by simpa using hv)
  have hzl : Tryd.zeroCells37.size = l2.length := by have := HZ2.out; rw [List.size_toArray] at this; exact this
  have hS : ActS w.heap.size w2.heap.size l2 4 (.int .i64 file) (.slice A s.length cap) W.drew := ⟨Blk.cell hxb 1, Blk.cell hxb 4, range_of_block hob, there_of_block hzb hzl⟩
  have HAP := append_any ((HD.out.tight).bel hbWd) HFIT.out (HG.out.bel hbWd) file A s.length cap s rfl (fun hA => ⟨none_len HRD.out hA, HCC.out hA⟩) (by omega) (HRD.out.belHeap hbWd)
  have HAPP := Lib.hid HAP
  have hS0 : (fun V : World => V.cell? ⟨w.heap.size + 1, 1, none⟩ = some (.int .i64 file) ∧ V.cell? ⟨w.heap.size + 1, 4, none⟩ = some (.slice A s.length cap) ∧ V.rangeAt w2.heap.size 0 l2 ∧ V.there (w.heap.size + 1 + 1) 0 l2.length) W.drew := hS
  have HSS := Lib.hid hS
  have HWS : Hid (w.heap.size + 3 ≤ W.drew.heap.size ∧ w2.heap.size < W.drew.heap.size ∧ w.heap.size ≤ w2.heap.size ∧ w2.heap.size ≠ w.heap.size + 1 + 1) := by show _ ∧ _; refine ⟨?_, ?_, ?_, ?_⟩ <;> first | omega | (show _ ≤ W.heap.size; omega) | (show _ < W.heap.size; omega)
  have HBW := Lib.hid hbWd
  have HI37 := Lib.hid hi37
  clear HAP hS hzl hob hzb hxb hbW hbWd hszW hsz2 hb23 hW hcv HI2 HO2 HZ2 HN2
  generalize hk : (m.append file s).2 = k at *
  generalize hkw : (mw.append file s).2 = kw at *
  clear hk hkw
  refine wp_region_noPanic ?_
  refine wp_region_held_drew (S := (fun V : World => V.cell? ⟨w.heap.size + 1, 1, none⟩ = some (.int .i64 file) ∧ V.cell? ⟨w.heap.size + 1, 4, none⟩ = some (.slice A s.length cap) ∧ V.rangeAt w2.heap.size 0 l2 ∧ V.there (w.heap.size + 1 + 1) 0 l2.length)) (by kernel_rfl) ?_ (fun hH0 => ?_)
  · (try dsimp only); (first | assumption | exact hS0 | exact hS4 | exact ActS.put hS4 HWS.out.2.2.2)
  refine wpAnyH_take (i := 0) (oi := _) (v := ?v0) rfl (by kernel_rfl) (by kernel_rfl) (by kernel_rfl) ?hq0 (Or.inl ⟨by rfl, ?hy0⟩) (by assumption) ?rest0
  case hq0 => exact fun _ _ _ h => h
  case hy0 => (intro w hSw; (try dsimp only at hSw); go_simp; try with_reducible rfl)
  try simp only [Act.put, List.setIfInBounds_toArray, List.set_cons_zero, List.set_cons_succ]
  refine wpAnyH_take (i := 1) (oi := _) (v := _) rfl (by kernel_rfl) (by kernel_rfl) (by kernel_rfl) ?hq1 (yieldsIf_load_mid (by rfl) _ _ rfl w2.heap.size 0 rfl l2 _ (fun V hV => hV.2.2.1) hu37 rfl hi37) (by assumption) ?rest1
  case hq1 => exact fun _ _ _ h => h
  try simp only [Act.put, List.setIfInBounds_toArray, List.set_cons_zero, List.set_cons_succ]
  refine wpAnyH_take (i := 2) (oi := _) (v := ?v2) rfl (by kernel_rfl) (by kernel_rfl) (by kernel_rfl) ?hq2 (Or.inl ⟨by rfl, ?hy2⟩) (by assumption) ?rest2
  case hq2 => exact fun _ _ _ h => h
  case hy2 => (intro w hSw; (try dsimp only at hSw); go_simp; try with_reducible rfl)
  try simp only [Act.put, List.setIfInBounds_toArray, List.set_cons_zero, List.set_cons_succ]
  refine wpAnyH_take (i := 3) (oi := _) (v := ?v3) rfl (by kernel_rfl) (by kernel_rfl) (by kernel_rfl) ?hq3 (Or.inl ⟨by rfl, ?hy3⟩) (by assumption) ?rest3
  case hq3 => exact fun _ _ _ h => h
  case hy3 => (intro w hSw; (try dsimp only at hSw); go_simp; try with_reducible rfl)
  try simp only [Act.put, List.setIfInBounds_toArray, List.set_cons_zero, List.set_cons_succ]
  refine wpAnyH_take (i := 4) (oi := _) (v := ?v4) rfl (by kernel_rfl) (by kernel_rfl) (by kernel_rfl) ?hq4 (Or.inl ⟨by rfl, ?hy4⟩) (by assumption) ?rest4
  case hq4 => exact fun _ _ _ h => h
  case hy4 => (intro w hSw; (try dsimp only at hSw); go_simp; try with_reducible rfl)
  try simp only [Act.put, List.setIfInBounds_toArray, List.set_cons_zero, List.set_cons_succ]
  refine wpAnyH_take (i := 5) (oi := _) (v := ?v5) rfl (by kernel_rfl) (by kernel_rfl) (by kernel_rfl) ?hq5 (Or.inl ⟨by rfl, ?hy5⟩) (by assumption) ?rest5
  case hq5 => exact fun _ _ _ h => h
  case hy5 => (intro w hSw; (try dsimp only at hSw); go_simp; try with_reducible rfl)
  try simp only [Act.put, List.setIfInBounds_toArray, List.set_cons_zero, List.set_cons_succ]
  refine wpAnyH_take (i := 6) (oi := _) (v := ?v6) rfl (by kernel_rfl) (by kernel_rfl) (by kernel_rfl) ?hq6 (Or.inl ⟨by rfl, ?hy6⟩) (by assumption) ?rest6
  case hq6 => exact fun _ _ _ h => h
  case hy6 => (intro w hSw; (try dsimp only at hSw); go_simp; try with_reducible rfl)
  try simp only [Act.put, List.setIfInBounds_toArray, List.set_cons_zero, List.set_cons_succ]
  refine wpAnyH_take (i := 9) (oi := _) (v := ?v9) rfl (by kernel_rfl) (by kernel_rfl) (by kernel_rfl) ?hq9 (Or.inl ⟨by rfl, ?hy9⟩) (by assumption) ?rest9
  case hq9 => exact fun _ _ _ h => h
  case hy9 => (intro w hSw; (try dsimp only at hSw); go_simp; try with_reducible rfl)
  try simp only [Act.put, List.setIfInBounds_toArray, List.set_cons_zero, List.set_cons_succ]
  refine wpAnyH_ready (rs := [7]) (by kernel_rfl) (by simp) ?_
  refine AllReadyH.cons (o := _) rfl (fun K hK => ?_) AllReadyH.nil
  go_simp
  (go_at_call 26; refine HAPP.out.mono ?_; rintro e w4 ⟨rfl, fp4, hD4, hO4⟩; have hS4 := HSS.out.opp hO4 HWS.out.1 HWS.out.2.1 (fun b h => h.2) HWS.out.2.2.1)
  try (go_wp2_with fail)
  refine hK.out _ _ ?_ (fun hH1 => ?_)
  · (try dsimp only); (first | assumption | exact hS0 | exact hS4 | exact ActS.put hS4 HWS.out.2.2.2)
  clear hK K hH0
  try simp only [Act.put, List.setIfInBounds_toArray, List.set_cons_zero, List.set_cons_succ]
  refine wpAnyH_ready (rs := [8]) (by kernel_rfl) (by simp) ?_
  refine AllReadyH.cons (o := _) rfl (fun K hK => ?_) AllReadyH.nil
  go_simp
  (go_at_call 11; refine (num_any _ _).mono ?_; rintro e w' ⟨rfl, rfl⟩)
  try (go_wp2_with fail)
  refine hK.out _ _ ?_ (fun hH2 => ?_)
  · (try dsimp only); (first | assumption | exact hS0 | exact hS4 | exact ActS.put hS4 HWS.out.2.2.2)
  clear hK K hH1
  try simp only [Act.put, List.setIfInBounds_toArray, List.set_cons_zero, List.set_cons_succ]
  refine wpAnyH_take (i := 10) (oi := _) (v := ?v10) rfl (by kernel_rfl) (by kernel_rfl) (by kernel_rfl) ?hq10 (Or.inl ⟨by rfl, ?hy10⟩) (by assumption) ?rest10
  case hq10 => exact fun _ _ _ h => h
  case hy10 => (intro w hSw; (try dsimp only at hSw); go_simp; try with_reducible rfl)
  try simp only [Act.put, List.setIfInBounds_toArray, List.set_cons_zero, List.set_cons_succ]
  refine wpAnyH_ready (rs := [11]) (by kernel_rfl) (by simp) ?_
  refine AllReadyH.cons (o := _) rfl (fun K hK => ?_) AllReadyH.nil
  go_simp
  refine hK.out _ _ ?_ (fun hH3 => ?_)
  · (try dsimp only); (first | assumption | exact hS0 | exact hS4 | exact ActS.put hS4 HWS.out.2.2.2)
  clear hK K hH2
  try simp only [Act.put, List.setIfInBounds_toArray, List.set_cons_zero, List.set_cons_succ]
  refine wpAnyH_ready (rs := [12]) (by kernel_rfl) (by simp) ?_
  refine AllReadyH.cons (o := _) rfl (fun K hK => ?_) AllReadyH.nil
  rw [if_pos (by rfl)]
  refine wp_store_mid _ _ _ rfl _ _ l2.toArray rfl rfl (hS4.2.2.2) (by rw [List.size_toArray]; exact hi37) (all_oneCell_toArray hone2) ?_
  simp only [Act.put, List.setIfInBounds_toArray, List.set_cons_zero, List.set_cons_succ, List.toList_toArray]
  refine hK.out _ _ ?_ (fun hH4 => ?_)
  · (try dsimp only); (first | assumption | exact hS0 | exact hS4 | exact ActS.put hS4 HWS.out.2.2.2)
  clear hK K hH3
  try simp only [Act.put, List.setIfInBounds_toArray, List.set_cons_zero, List.set_cons_succ]
  refine wpAnyH_ready (rs := [13]) (by kernel_rfl) (by simp) ?_
  refine AllReadyH.cons (o := _) rfl (fun K hK => ?_) AllReadyH.nil
  go_simp
  refine hK.out _ _ ?_ (fun hH5 => ?_)
  · (try dsimp only); (first | assumption | exact hS0 | exact hS4 | exact ActS.put hS4 HWS.out.2.2.2)
  clear hK K hH4
  try simp only [Act.put, List.setIfInBounds_toArray, List.set_cons_zero, List.set_cons_succ]
  refine wpAnyH_done (by kernel_rfl) ?_ _
  refine NoPanic.normal ?_
  have HD4 := Lib.hid hD4
  have HO4 := Lib.hid hO4
  have HS4 := Lib.hid hS4
  clear hD4 hO4 hS4 hS0
  go_wp2
  refine bodyPost_ret (v := .tuple #[.pointer (some ⟨bd, 0, none⟩), .agg l2.toArray, .bool (k == kw)]) (results_row3 rfl _ _ (w.heap.size + 1 + 1) l2 _ _ rfl rfl rfl (World.rangeAt_setCells_same _ _ _ _ HS4.out.2.2.2) HI37.out) rfl ?_
  exact act_end HBW.out HWS.out.1 HD4.out HO4.out
set_option maxRecDepth 100000 in
set_option maxHeartbeats 1000000 in
theorem act_append1 {w : World} {bd : Nat} {m : DM} {fp : Nat → Prop} {cs : Array Value} {mw : DM} (h : DiskIs w bd m fp) (hfit : Fit m) (hg : ErrType w) (hr : RDis w cs mw) (hrf : RFit mw) (hfew : mw.loose.length < 1000000) (file n torn : Int) (A : Option Addr) (cap : Nat) (s : List UInt8) (hc : A = none → cap = 0) (hs : s.length ≤ 60) (hrd : Reads w w.heap.size 1 A s.length (s.map bv)) :
    Calls Tryd.prog 12 #[.pointer (some ⟨bd, 0, none⟩), .agg cs, .agg #[.int .i64 1, .int .i64 file, .int .i64 n, .int .i64 torn, .slice A s.length cap]] w (GivesAct (m.append file s).1 fp w) := by
  have hb3 := actW_bel w cs (.int .i64 1) (.int .i64 file) (.int .i64 n) (.int .i64 torn) (.slice A s.length cap)
  have HA := Lib.hid (actW_fst w cs (.int .i64 1) (.int .i64 file) (.int .i64 n) (.int .i64 torn) (.slice A s.length cap))
  have HX := Lib.hid (actW_snd w cs (.int .i64 1) (.int .i64 file) (.int .i64 n) (.int .i64 torn) (.slice A s.length cap))
  have HZ := Lib.hid (actW_thd w cs (.int .i64 1) (.int .i64 file) (.int .i64 n) (.int .i64 torn) (.slice A s.length cap))
  have HSZ := Lib.hid hr.info
  have HRA := Lib.hid (rdAppend_any (hr.bel hb3) hrf hfew file s (by omega))
  have hcv := conv_reads cap (hrd.belHeap hb3)
  unfold strV at hcv
  unfold actW at hcv
  have HB3 := Lib.hid hb3
  have HD := Lib.hid h
  have HRD := Lib.hid hrd
  have HG := Lib.hid hg
  have HFIT := Lib.hid hfit
  have HCC := Lib.hid hc
  have hsI : (s.length : Int) ≤ 60 := by omega
  clear h hfit hg hr hrf hrd hb3 hc
  go_enter Tryd.func12, Tryd.ntmps12
  go_wp2_with (first
               | (refine wpList_load_row rfl 37 _ rfl w.heap.size rfl _ cs (0, 0) _ HA.out Tryd.underlying37 rfl HSZ.out ?_)
               | (go_at_call 27; refine HRA.out.mono ?_; rintro e w2 ⟨cs2', rfl, hr2, hb2⟩
                  obtain ⟨l2, rfl⟩ : ∃ l : List Value, cs2' = l.toArray := ⟨cs2'.toList, by simp⟩
                  have HI2 := Lib.hid hr2.info
                  have HO2 := Lib.hid hr2.one
                  have HZ2 := Lib.hid hr2.zsize
                  have HN2 := Lib.hid (World.alloc_heap_new w2 (.cells Tryd.zeroCells37 37))
                  have HB2 := Lib.hid hb2
                  clear hr2 hb2)
               | (refine wpList_store_row rfl 37 _ _ rfl w2.heap.size l2.toArray rfl rfl _ _ HN2.out HI2.out HZ2.out HO2.out ?_))
  obtain ⟨W, hW⟩ : ∃ W, W = (w2.alloc (.cells Tryd.zeroCells37 37)).setRow w2.heap.size l2.toArray := ⟨_, rfl⟩
  rw [← hW]
  have hb23 : Bel w2 W := by rw [hW]; exact below_setRow ((Bel.refl w2).alloc _) (Nat.le_refl _) _
  have hbW : Bel w W := (HB3.out.then_ HB2.out).then_ hb23
  have hbWd : Bel w W.drew := hbW.drew
  have hszW : W.heap.size = w2.heap.size + 1 := by rw [hW]; simp
  have hsz2 : w.heap.size + 3 ≤ w2.heap.size := by have := HB2.out.size; rw [actW_size] at this; exact this
  have hxb : W.heap[w.heap.size + 1]? = some (.cells #[.int .i64 1, .int .i64 file, .int .i64 n, .int .i64 torn, .slice A s.length cap] 33 (0, 0)) := hb23.deferred (HB2.out.deferred HX.out)
  have hzb : W.heap[w.heap.size + 1 + 1]? = some (.cells Tryd.zeroCells37 37 (0, 0)) := hb23.deferred (HB2.out.deferred HZ.out)
  have hob : W.heap[w2.heap.size]? = some (.cells l2.toArray 37 (0, 0)) := by rw [hW]; exact setRow_heap _ _ _ _ _ _ HN2.out
  have hu37 := Tryd.underlying37
  have hi37 : (Tryd.prog.info? 37).map (·.size) = some l2.length := by have := HI2.out; rw [List.size_toArray] at this; exact this
  have hone2 : ∀ v ∈ l2, v.oneCell' = true := fun v hv => Array.all_eq_true_iff_forall_mem.1 HO2.out v (by simpa using hv)
  have hzl : Tryd.zeroCells37.size = l2.length := by have := HZ2.out; rw [List.size_toArray] at this; exact this
  have hS : ActS w.heap.size w2.heap.size l2 4 (.int .i64 file) (.slice A s.length cap) W.drew := ⟨Blk.cell hxb 1, Blk.cell hxb 4, range_of_block hob, there_of_block hzb hzl⟩
  have HAP := append_any ((HD.out.tight).bel hbWd) HFIT.out (HG.out.bel hbWd) file A s.length cap s rfl (fun hA => ⟨none_len HRD.out hA, HCC.out hA⟩) (by omega) (HRD.out.belHeap hbWd)
  have HAPP := Lib.hid HAP
  have hS0 : (fun V : World => V.cell? ⟨w.heap.size + 1, 1, none⟩ = some (.int .i64 file) ∧ V.cell? ⟨w.heap.size + 1, 4, none⟩ = some (.slice A s.length cap) ∧ V.rangeAt w2.heap.size 0 l2 ∧ V.there (w.heap.size + 1 + 1) 0 l2.length) W.drew := hS
  have HSS := Lib.hid hS
  have HWS : Hid (w.heap.size + 3 ≤ W.drew.heap.size ∧ w2.heap.size < W.drew.heap.size ∧ w.heap.size ≤ w2.heap.size ∧ w2.heap.size ≠ w.heap.size + 1 + 1) := by show _ ∧ _; refine ⟨?_, ?_, ?_, ?_⟩ <;> first | omega | (show _ ≤ W.heap.size; omega) | (show _ < W.heap.size; omega)
  have HBW := Lib.hid hbWd
  have HI37 := Lib.hid hi37
  clear HAP hS hzl hob hzb hxb hbW hbWd hszW hsz2 hb23 hW hcv HI2 HO2 HZ2 HN2
  generalize hk : (m.append file s).2 = k at *
  generalize hkw : (mw.append file s).2 = kw at *
  clear hk hkw
  refine wp_region_noPanic ?_
  refine wp_region_held_drew (S := (fun V : World => V.cell? ⟨w.heap.size + 1, 1, none⟩ = some (.int .i64 file) ∧ V.cell? ⟨w.heap.size + 1, 4, none⟩ = some (.slice A s.length cap) ∧ V.rangeAt w2.heap.size 0 l2 ∧ V.there (w.heap.size + 1 + 1) 0 l2.length)) (by kernel_rfl) ?_ (fun hH0 => ?_)
  · (try dsimp only); (first | assumption | exact hS0 | exact hS4 | exact ActS.put hS4 HWS.out.2.2.2)
  refine wpAnyH_take (i := 0) (oi := _) (v := ?v0) rfl (by kernel_rfl) (by kernel_rfl) (by kernel_rfl) ?hq0 (Or.inl ⟨by rfl, ?hy0⟩) (by assumption) ?rest0
  case hq0 => exact fun _ _ _ h => h
  case hy0 => (intro w hSw; (try dsimp only at hSw); go_simp; try with_reducible rfl)
  try simp only [Act.put, List.setIfInBounds_toArray, List.set_cons_zero, List.set_cons_succ]
  refine wpAnyH_take (i := 1) (oi := _) (v := _) rfl (by kernel_rfl) (by kernel_rfl) (by kernel_rfl) ?hq1 (yieldsIf_load_mid (by rfl) _ _ rfl w2.heap.size 0 rfl l2 _ (fun V hV => hV.2.2.1) hu37 rfl hi37) (by assumption) ?rest1
  case hq1 => exact fun _ _ _ h => h
  try simp only [Act.put, List.setIfInBounds_toArray, List.set_cons_zero, List.set_cons_succ]
  refine wpAnyH_take (i := 2) (oi := _) (v := ?v2) rfl (by kernel_rfl) (by kernel_rfl) (by kernel_rfl) ?hq2 (Or.inl ⟨by rfl, ?hy2⟩) (by assumption) ?rest2
  case hq2 => exact fun _ _ _ h => h
  case hy2 => (intro w hSw; (try dsimp only at hSw); go_simp; try with_reducible rfl)
  try simp only [Act.put, List.setIfInBounds_toArray, List.set_cons_zero, List.set_cons_succ]
  refine wpAnyH_take (i := 3) (oi := _) (v := ?v3) rfl (by kernel_rfl) (by kernel_rfl) (by kernel_rfl) ?hq3 (Or.inl ⟨by rfl, ?hy3⟩) (by assumption) ?rest3
  case hq3 => exact fun _ _ _ h => h
  case hy3 => (intro w hSw; (try dsimp only at hSw); go_simp; try with_reducible rfl)
  try simp only [Act.put, List.setIfInBounds_toArray, List.set_cons_zero, List.set_cons_succ]
  refine wpAnyH_take (i := 4) (oi := _) (v := ?v4) rfl (by kernel_rfl) (by kernel_rfl) (by kernel_rfl) ?hq4 (Or.inl ⟨by rfl, ?hy4⟩) (by assumption) ?rest4
  case hq4 => exact fun _ _ _ h => h
  case hy4 => (intro w hSw; (try dsimp only at hSw); go_simp; try with_reducible rfl)
  try simp only [Act.put, List.setIfInBounds_toArray, List.set_cons_zero, List.set_cons_succ]
  refine wpAnyH_take (i := 5) (oi := _) (v := ?v5) rfl (by kernel_rfl) (by kernel_rfl) (by kernel_rfl) ?hq5 (Or.inl ⟨by rfl, ?hy5⟩) (by assumption) ?rest5
  case hq5 => exact fun _ _ _ h => h
  case hy5 => (intro w hSw; (try dsimp only at hSw); go_simp; try with_reducible rfl)
  try simp only [Act.put, List.setIfInBounds_toArray, List.set_cons_zero, List.set_cons_succ]
  refine wpAnyH_take (i := 6) (oi := _) (v := ?v6) rfl (by kernel_rfl) (by kernel_rfl) (by kernel_rfl) ?hq6 (Or.inl ⟨by rfl, ?hy6⟩) (by assumption) ?rest6
  case hq6 => exact fun _ _ _ h => h
  case hy6 => (intro w hSw; (try dsimp only at hSw); go_simp; try with_reducible rfl)
  try simp only [Act.put, List.setIfInBounds_toArray, List.set_cons_zero, List.set_cons_succ]
  refine wpAnyH_take (i := 9) (oi := _) (v := ?v9) rfl (by kernel_rfl) (by kernel_rfl) (by kernel_rfl) ?hq9 (Or.inl ⟨by rfl, ?hy9⟩) (by assumption) ?rest9
  case hq9 => exact fun _ _ _ h => h
  case hy9 => (intro w hSw; (try dsimp only at hSw); go_simp; try with_reducible rfl)
  try simp only [Act.put, List.setIfInBounds_toArray, List.set_cons_zero, List.set_cons_succ]
  refine wpAnyH_ready (rs := [7]) (by kernel_rfl) (by simp) ?_
  refine AllReadyH.cons (o := _) rfl (fun K hK => ?_) AllReadyH.nil
  go_simp
  (go_at_call 26; refine HAPP.out.mono ?_; rintro e w4 ⟨rfl, fp4, hD4, hO4⟩; have hS4 := HSS.out.opp hO4 HWS.out.1 HWS.out.2.1 (fun b h => h.2) HWS.out.2.2.1)
  try (go_wp2_with fail)
  refine hK.out _ _ ?_ (fun hH1 => ?_)
  · (try dsimp only); (first | assumption | exact hS0 | exact hS4 | exact ActS.put hS4 HWS.out.2.2.2)
  clear hK K hH0
  try simp only [Act.put, List.setIfInBounds_toArray, List.set_cons_zero, List.set_cons_succ]
  refine wpAnyH_ready (rs := [8]) (by kernel_rfl) (by simp) ?_
  refine AllReadyH.cons (o := _) rfl (fun K hK => ?_) AllReadyH.nil
  go_simp
  (go_at_call 11; refine (num_any _ _).mono ?_; rintro e w' ⟨rfl, rfl⟩)
  try (go_wp2_with fail)
  refine hK.out _ _ ?_ (fun hH2 => ?_)
  · (try dsimp only); (first | assumption | exact hS0 | exact hS4 | exact ActS.put hS4 HWS.out.2.2.2)
  clear hK K hH1
  try simp only [Act.put, List.setIfInBounds_toArray, List.set_cons_zero, List.set_cons_succ]
  refine wpAnyH_take (i := 10) (oi := _) (v := ?v10) rfl (by kernel_rfl) (by kernel_rfl) (by kernel_rfl) ?hq10 (Or.inl ⟨by rfl, ?hy10⟩) (by assumption) ?rest10
  case hq10 => exact fun _ _ _ h => h
  case hy10 => (intro w hSw; (try dsimp only at hSw); go_simp; try with_reducible rfl)
  try simp only [Act.put, List.setIfInBounds_toArray, List.set_cons_zero, List.set_cons_succ]
  refine wpAnyH_ready (rs := [11]) (by kernel_rfl) (by simp) ?_
  refine AllReadyH.cons (o := _) rfl (fun K hK => ?_) AllReadyH.nil
  go_simp
  refine hK.out _ _ ?_ (fun hH3 => ?_)
  · (try dsimp only); (first | assumption | exact hS0 | exact hS4 | exact ActS.put hS4 HWS.out.2.2.2)
  clear hK K hH2
  try simp only [Act.put, List.setIfInBounds_toArray, List.set_cons_zero, List.set_cons_succ]
  refine wpAnyH_ready (rs := [12]) (by kernel_rfl) (by simp) ?_
  refine AllReadyH.cons (o := _) rfl (fun K hK => ?_) AllReadyH.nil
  rw [if_pos (by rfl)]
  refine wp_store_mid _ _ _ rfl _ _ l2.toArray rfl rfl (hS4.2.2.2) (by rw [List.size_toArray]; exact hi37) (all_oneCell_toArray hone2) ?_
  simp only [Act.put, List.setIfInBounds_toArray, List.set_cons_zero, List.set_cons_succ, List.toList_toArray]
  refine hK.out _ _ ?_ (fun hH4 => ?_)
  · (try dsimp only); (first | assumption | exact hS0 | exact hS4 | exact ActS.put hS4 HWS.out.2.2.2)
  clear hK K hH3
  try simp only [Act.put, List.setIfInBounds_toArray, List.set_cons_zero, List.set_cons_succ]
  refine wpAnyH_ready (rs := [13]) (by kernel_rfl) (by simp) ?_
  refine AllReadyH.cons (o := _) rfl (fun K hK => ?_) AllReadyH.nil
  go_simp
  refine hK.out _ _ ?_ (fun hH5 => ?_)
  · (try dsimp only); (first | assumption | exact hS0 | exact hS4 | exact ActS.put hS4 HWS.out.2.2.2)
  clear hK K hH4
  try simp only [Act.put, List.setIfInBounds_toArray, List.set_cons_zero, List.set_cons_succ]
  refine wpAnyH_done (by kernel_rfl) ?_ _
  refine NoPanic.normal ?_
  have HD4 := Lib.hid hD4
  have HO4 := Lib.hid hO4
  have HS4 := Lib.hid hS4
  clear hD4 hO4 hS4 hS0
  go_wp2
  refine bodyPost_ret (v := .tuple #[.pointer (some ⟨bd, 0, none⟩), .agg l2.toArray, .bool (k == kw)]) (results_row3 rfl _ _ (w.heap.size + 1 + 1) l2 _ _ rfl rfl rfl (World.rangeAt_setCells_same _ _ _ _ HS4.out.2.2.2) HI37.out) rfl ?_
  exact act_end HBW.out HWS.out.1 HD4.out HO4.out
set_option maxRecDepth 100000 in
set_option maxHeartbeats 1000000 in
theorem act_append2 {w : World} {bd : Nat} {m : DM} {fp : Nat → Prop} {cs : Array Value} {mw : DM} (h : DiskIs w bd m fp) (hfit : Fit m) (hg : ErrType w) (hr : RDis w cs mw) (hrf : RFit mw) (hfew : mw.loose.length < 1000000) (file n torn : Int) (A : Option Addr) (cap : Nat) (s : List UInt8) (hc : A = none → cap = 0) (hs : s.length ≤ 60) (hrd : Reads w w.heap.size 1 A s.length (s.map bv)) :
    Calls Tryd.prog 12 #[.pointer (some ⟨bd, 0, none⟩), .agg cs, .agg #[.int .i64 2, .int .i64 file, .int .i64 n, .int .i64 torn, .slice A s.length cap]] w (GivesAct (m.append file s).1 fp w) := by
  have hb3 := actW_bel w cs (.int .i64 2) (.int .i64 file) (.int .i64 n) (.int .i64 torn) (.slice A s.length cap)
  have HA := Lib.hid (actW_fst w cs (.int .i64 2) (.int .i64 file) (.int .i64 n) (.int .i64 torn) (.slice A s.length cap))
  have HX := Lib.hid (actW_snd w cs (.int .i64 2) (.int .i64 file) (.int .i64 n) (.int .i64 torn) (.slice A s.length cap))
  have HZ := Lib.hid (actW_thd w cs (.int .i64 2) (.int .i64 file) (.int .i64 n) (.int .i64 torn) (.slice A s.length cap))
  have HSZ := Lib.hid hr.info
  have HRA := Lib.hid (rdAppend_any (hr.bel hb3) hrf hfew file s (by omega))
  have hcv := conv_reads cap (hrd.belHeap hb3)
  unfold strV at hcv
  unfold actW at hcv
  have HB3 := Lib.hid hb3
  have HD := Lib.hid h
  have HRD := Lib.hid hrd
  have HG := Lib.hid hg
  have HFIT := Lib.hid hfit
  have HCC := Lib.hid hc
  have hsI : (s.length : Int) ≤ 60 := by omega
  clear h hfit hg hr hrf hrd hb3 hc
  go_enter Tryd.func12, Tryd.ntmps12
  go_wp2_with (first
               | (refine wpList_load_row rfl 37 _ rfl w.heap.size rfl _ cs (0, 0) _ HA.out Tryd.underlying37 rfl HSZ.out ?_)
               | (go_at_call 27; refine HRA.out.mono ?_; rintro e w2 ⟨cs2', rfl, hr2, hb2⟩
                  obtain ⟨l2, rfl⟩ : ∃ l : List Value, cs2' = l.toArray := ⟨cs2'.toList, by simp⟩
                  have HI2 := Lib.hid hr2.info
                  have HO2 := Lib.hid hr2.one
                  have HZ2 := Lib.hid hr2.zsize
                  have HN2 := Lib.hid (World.alloc_heap_new w2 (.cells Tryd.zeroCells37 37))
                  have HB2 := Lib.hid hb2
                  clear hr2 hb2)
               | (refine wpList_store_row rfl 37 _ _ rfl w2.heap.size l2.toArray rfl rfl _ _ HN2.out HI2.out HZ2.out HO2.out ?_))
  obtain ⟨W, hW⟩ : ∃ W, W = (w2.alloc (.cells Tryd.zeroCells37 37)).setRow w2.heap.size l2.toArray := ⟨_, rfl⟩
  rw [← hW]
  have hb23 : Bel w2 W := by rw [hW]; exact below_setRow ((Bel.refl w2).alloc _) (Nat.le_refl _) _
  have hbW : Bel w W := (HB3.out.then_ HB2.out).then_ hb23
  have hbWd : Bel w W.drew := hbW.drew
  have hszW : W.heap.size = w2.heap.size + 1 := by rw [hW]; simp
  have hsz2 : w.heap.size + 3 ≤ w2.heap.size := by have := HB2.out.size; rw [actW_size] at this; exact this
  have hxb : W.heap[w.heap.size + 1]? = some (.cells #[.int .i64 2, .int .i64 file, .int .i64 n, .int .i64 torn, .slice A s.length cap] 33 (0, 0)) := hb23.deferred (HB2.out.deferred HX.out)
  have hzb : W.heap[w.heap.size + 1 + 1]? = some (.cells Tryd.zeroCells37 37 (0, 0)) := hb23.deferred (HB2.out.deferred HZ.out)
  have hob : W.heap[w2.heap.size]? = some (.cells l2.toArray 37 (0, 0)) := by rw [hW]; exact setRow_heap _ _ _ _ _ _ HN2.out
  have hu37 := Tryd.underlying37
  have hi37 : (Tryd.prog.info? 37).map (·.size) = some l2.length := by have := HI2.out; rw [List.size_toArray] at this; exact this
  have hone2 : ∀ v ∈ l2, v.oneCell' = true := fun v hv => Array.all_eq_true_iff_forall_mem.1 HO2.out v (by simpa using hv)
  have hzl : Tryd.zeroCells37.size = l2.length := by have := HZ2.out; rw [List.size_toArray] at this; exact this
  have hS : ActS w.heap.size w2.heap.size l2 4 (.int .i64 file) (.slice A s.length cap) W.drew := ⟨Blk.cell hxb 1, Blk.cell hxb 4, range_of_block hob, there_of_block hzb hzl⟩
  have HAP := append_any ((HD.out.tight).bel hbWd) HFIT.out (HG.out.bel hbWd) file A s.length cap s rfl (fun hA => ⟨none_len HRD.out hA, HCC.out hA⟩) (by omega) (HRD.out.belHeap hbWd)
  have HAPP := Lib.hid HAP
  have hS0 : (fun V : World => V.cell? ⟨w.heap.size + 1, 1, none⟩ = some (.int .i64 file) ∧ V.cell? ⟨w.heap.size + 1, 4, none⟩ = some (.slice A s.length cap) ∧ V.rangeAt w2.heap.size 0 l2 ∧ V.there (w.heap.size + 1 + 1) 0 l2.length) W.drew := hS
  have HSS := Lib.hid hS
  have HWS : Hid (w.heap.size + 3 ≤ W.drew.heap.size ∧ w2.heap.size < W.drew.heap.size ∧ w.heap.size ≤ w2.heap.size ∧ w2.heap.size ≠ w.heap.size + 1 + 1) := by show _ ∧ _; refine ⟨?_, ?_, ?_, ?_⟩ <;> first | omega | (show _ ≤ W.heap.size; omega) | (show _ < W.heap.size; omega)
  have HBW := Lib.hid hbWd
  have HI37 := Lib.hid hi37
  clear HAP hS hzl hob hzb hxb hbW hbWd hszW hsz2 hb23 hW hcv HI2 HO2 HZ2 HN2
  generalize hk : (m.append file s).2 = k at *
  generalize hkw : (mw.append file s).2 = kw at *
  clear hk hkw
  refine wp_region_noPanic ?_
  refine wp_region_held_drew (S := (fun V : World => V.cell? ⟨w.heap.size + 1, 1, none⟩ = some (.int .i64 file) ∧ V.cell? ⟨w.heap.size + 1, 4, none⟩ = some (.slice A s.length cap) ∧ V.rangeAt w2.heap.size 0 l2 ∧ V.there (w.heap.size + 1 + 1) 0 l2.length)) (by kernel_rfl) ?_ (fun hH0 => ?_)
  · (try dsimp only); (first | assumption | exact hS0 | exact hS4 | exact ActS.put hS4 HWS.out.2.2.2)
  refine wpAnyH_take (i := 0) (oi := _) (v := ?v0) rfl (by kernel_rfl) (by kernel_rfl) (by kernel_rfl) ?hq0 (Or.inl ⟨by rfl, ?hy0⟩) (by assumption) ?rest0
  case hq0 => exact fun _ _ _ h => h
  case hy0 => (intro w hSw; (try dsimp only at hSw); go_simp; try with_reducible rfl)
  try simp only [Act.put, List.setIfInBounds_toArray, List.set_cons_zero, List.set_cons_succ]
  refine wpAnyH_take (i := 1) (oi := _) (v := _) rfl (by kernel_rfl) (by kernel_rfl) (by kernel_rfl) ?hq1 (yieldsIf_load_mid (by rfl) _ _ rfl w2.heap.size 0 rfl l2 _ (fun V hV => hV.2.2.1) hu37 rfl hi37) (by assumption) ?rest1
  case hq1 => exact fun _ _ _ h => h
  try simp only [Act.put, List.setIfInBounds_toArray, List.set_cons_zero, List.set_cons_succ]
  refine wpAnyH_take (i := 2) (oi := _) (v := ?v2) rfl (by kernel_rfl) (by kernel_rfl) (by kernel_rfl) ?hq2 (Or.inl ⟨by rfl, ?hy2⟩) (by assumption) ?rest2
  case hq2 => exact fun _ _ _ h => h
  case hy2 => (intro w hSw; (try dsimp only at hSw); go_simp; try with_reducible rfl)
  try simp only [Act.put, List.setIfInBounds_toArray, List.set_cons_zero, List.set_cons_succ]
  refine wpAnyH_take (i := 3) (oi := _) (v := ?v3) rfl (by kernel_rfl) (by kernel_rfl) (by kernel_rfl) ?hq3 (Or.inl ⟨by rfl, ?hy3⟩) (by assumption) ?rest3
  case hq3 => exact fun _ _ _ h => h
  case hy3 => (intro w hSw; (try dsimp only at hSw); go_simp; try with_reducible rfl)
  try simp only [Act.put, List.setIfInBounds_toArray, List.set_cons_zero, List.set_cons_succ]
  refine wpAnyH_take (i := 4) (oi := _) (v := ?v4) rfl (by kernel_rfl) (by kernel_rfl) (by kernel_rfl) ?hq4 (Or.inl ⟨by rfl, ?hy4⟩) (by assumption) ?rest4
  case hq4 => exact fun _ _ _ h => h
  case hy4 => (intro w hSw; (try dsimp only at hSw); go_simp; try with_reducible rfl)
  try simp only [Act.put, List.setIfInBounds_toArray, List.set_cons_zero, List.set_cons_succ]
  refine wpAnyH_take (i := 5) (oi := _) (v := ?v5) rfl (by kernel_rfl) (by kernel_rfl) (by kernel_rfl) ?hq5 (Or.inl ⟨by rfl, ?hy5⟩) (by assumption) ?rest5
  case hq5 => exact fun _ _ _ h => h
  case hy5 => (intro w hSw; (try dsimp only at hSw); go_simp; try with_reducible rfl)
  try simp only [Act.put, List.setIfInBounds_toArray, List.set_cons_zero, List.set_cons_succ]
  refine wpAnyH_take (i := 6) (oi := _) (v := ?v6) rfl (by kernel_rfl) (by kernel_rfl) (by kernel_rfl) ?hq6 (Or.inl ⟨by rfl, ?hy6⟩) (by assumption) ?rest6
  case hq6 => exact fun _ _ _ h => h
  case hy6 => (intro w hSw; (try dsimp only at hSw); go_simp; try with_reducible rfl)
  try simp only [Act.put, List.setIfInBounds_toArray, List.set_cons_zero, List.set_cons_succ]
  refine wpAnyH_take (i := 9) (oi := _) (v := ?v9) rfl (by kernel_rfl) (by kernel_rfl) (by kernel_rfl) ?hq9 (Or.inl ⟨by rfl, ?hy9⟩) (by assumption) ?rest9
  case hq9 => exact fun _ _ _ h => h
  case hy9 => (intro w hSw; (try dsimp only at hSw); go_simp; try with_reducible rfl)
  try simp only [Act.put, List.setIfInBounds_toArray, List.set_cons_zero, List.set_cons_succ]
  refine wpAnyH_ready (rs := [7]) (by kernel_rfl) (by simp) ?_
  refine AllReadyH.cons (o := _) rfl (fun K hK => ?_) AllReadyH.nil
  go_simp
  (go_at_call 26; refine HAPP.out.mono ?_; rintro e w4 ⟨rfl, fp4, hD4, hO4⟩; have hS4 := HSS.out.opp hO4 HWS.out.1 HWS.out.2.1 (fun b h => h.2) HWS.out.2.2.1)
  try (go_wp2_with fail)
  refine hK.out _ _ ?_ (fun hH1 => ?_)
  · (try dsimp only); (first | assumption | exact hS0 | exact hS4 | exact ActS.put hS4 HWS.out.2.2.2)
  clear hK K hH0
  try simp only [Act.put, List.setIfInBounds_toArray, List.set_cons_zero, List.set_cons_succ]
  refine wpAnyH_ready (rs := [8]) (by kernel_rfl) (by simp) ?_
  refine AllReadyH.cons (o := _) rfl (fun K hK => ?_) AllReadyH.nil
  go_simp
  (go_at_call 11; refine (num_any _ _).mono ?_; rintro e w' ⟨rfl, rfl⟩)
  try (go_wp2_with fail)
  refine hK.out _ _ ?_ (fun hH2 => ?_)
  · (try dsimp only); (first | assumption | exact hS0 | exact hS4 | exact ActS.put hS4 HWS.out.2.2.2)
  clear hK K hH1
  try simp only [Act.put, List.setIfInBounds_toArray, List.set_cons_zero, List.set_cons_succ]
  refine wpAnyH_take (i := 10) (oi := _) (v := ?v10) rfl (by kernel_rfl) (by kernel_rfl) (by kernel_rfl) ?hq10 (Or.inl ⟨by rfl, ?hy10⟩) (by assumption) ?rest10
  case hq10 => exact fun _ _ _ h => h
  case hy10 => (intro w hSw; (try dsimp only at hSw); go_simp; try with_reducible rfl)
  try simp only [Act.put, List.setIfInBounds_toArray, List.set_cons_zero, List.set_cons_succ]
  refine wpAnyH_ready (rs := [11]) (by kernel_rfl) (by simp) ?_
  refine AllReadyH.cons (o := _) rfl (fun K hK => ?_) AllReadyH.nil
  go_simp
  refine hK.out _ _ ?_ (fun hH3 => ?_)
  · (try dsimp only); (first | assumption | exact hS0 | exact hS4 | exact ActS.put hS4 HWS.out.2.2.2)
  clear hK K hH2
  try simp only [Act.put, List.setIfInBounds_toArray, List.set_cons_zero, List.set_cons_succ]
  refine wpAnyH_ready (rs := [12]) (by kernel_rfl) (by simp) ?_
  refine AllReadyH.cons (o := _) rfl (fun K hK => ?_) AllReadyH.nil
  rw [if_pos (by rfl)]
  refine wp_store_mid _ _ _ rfl _ _ l2.toArray rfl rfl (hS4.2.2.2) (by rw [List.size_toArray]; exact hi37) (all_oneCell_toArray hone2) ?_
  simp only [Act.put, List.setIfInBounds_toArray, List.set_cons_zero, List.set_cons_succ, List.toList_toArray]
  refine hK.out _ _ ?_ (fun hH4 => ?_)
  · (try dsimp only); (first | assumption | exact hS0 | exact hS4 | exact ActS.put hS4 HWS.out.2.2.2)
  clear hK K hH3
  try simp only [Act.put, List.setIfInBounds_toArray, List.set_cons_zero, List.set_cons_succ]
  refine wpAnyH_ready (rs := [13]) (by kernel_rfl) (by simp) ?_
  refine AllReadyH.cons (o := _) rfl (fun K hK => ?_) AllReadyH.nil
  go_simp
  refine hK.out _ _ ?_ (fun hH5 => ?_)
  · (try dsimp only); (first | assumption | exact hS0 | exact hS4 | exact ActS.put hS4 HWS.out.2.2.2)
  clear hK K hH4
  try simp only [Act.put, List.setIfInBounds_toArray, List.set_cons_zero, List.set_cons_succ]
  refine wpAnyH_done (by kernel_rfl) ?_ _
  refine NoPanic.normal ?_
  have HD4 := Lib.hid hD4
  have HO4 := Lib.hid hO4
  have HS4 := Lib.hid hS4
  clear hD4 hO4 hS4 hS0
  go_wp2
  refine bodyPost_ret (v := .tuple #[.pointer (some ⟨bd, 0, none⟩), .agg l2.toArray, .bool (k == kw)]) (results_row3 rfl _ _ (w.heap.size + 1 + 1) l2 _ _ rfl rfl rfl (World.rangeAt_setCells_same _ _ _ _ HS4.out.2.2.2) HI37.out) rfl ?_
  exact act_end HBW.out HWS.out.1 HD4.out HO4.out
set_option maxRecDepth 100000 in
set_option maxHeartbeats 1000000 in
theorem act_cut {w : World} {bd : Nat} {m : DM} {fp : Nat → Prop} {cs : Array Value} {mw : DM} (h : DiskIs w bd m fp) (hfit : Fit m) (hg : ErrType w) (hr : RDis w cs mw) (hrf : RFit mw) (hfew : mw.loose.length < 1000000) (file n torn : Int) (A : Option Addr) (cap : Nat) (s : List UInt8) (hc : A = none → cap = 0) (hs : s.length ≤ 60) (hrd : Reads w w.heap.size 1 A s.length (s.map bv)) :
    Calls Tryd.prog 12 #[.pointer (some ⟨bd, 0, none⟩), .agg cs, .agg #[.int .i64 3, .int .i64 file, .int .i64 n, .int .i64 torn, .slice A s.length cap]] w (GivesAct (m.cut file n).1 fp w) := by
  have hb3 := actW_bel w cs (.int .i64 3) (.int .i64 file) (.int .i64 n) (.int .i64 torn) (.slice A s.length cap)
  have HA := Lib.hid (actW_fst w cs (.int .i64 3) (.int .i64 file) (.int .i64 n) (.int .i64 torn) (.slice A s.length cap))
  have HX := Lib.hid (actW_snd w cs (.int .i64 3) (.int .i64 file) (.int .i64 n) (.int .i64 torn) (.slice A s.length cap))
  have HZ := Lib.hid (actW_thd w cs (.int .i64 3) (.int .i64 file) (.int .i64 n) (.int .i64 torn) (.slice A s.length cap))
  have HSZ := Lib.hid hr.info
  have HRA := Lib.hid (rdCut_any (hr.bel hb3) hrf hfew file n)
  have HB3 := Lib.hid hb3
  have HD := Lib.hid h
  have HRD := Lib.hid hrd
  have HG := Lib.hid hg
  have HFIT := Lib.hid hfit
  have HCC := Lib.hid hc
  have hsI : (s.length : Int) ≤ 60 := by omega
  clear h hfit hg hr hrf hrd hb3 hc
  go_enter Tryd.func12, Tryd.ntmps12
  go_wp2_with (first
               | (refine wpList_load_row rfl 37 _ rfl w.heap.size rfl _ cs (0, 0) _ HA.out Tryd.underlying37 rfl HSZ.out ?_)
               | (go_at_call 42; refine HRA.out.mono ?_; rintro e w2 ⟨cs2', rfl, hr2, hb2⟩
                  obtain ⟨l2, rfl⟩ : ∃ l : List Value, cs2' = l.toArray := ⟨cs2'.toList, by simp⟩
                  have HI2 := Lib.hid hr2.info
                  have HO2 := Lib.hid hr2.one
                  have HZ2 := Lib.hid hr2.zsize
                  have HN2 := Lib.hid (World.alloc_heap_new w2 (.cells Tryd.zeroCells37 37))
                  have HB2 := Lib.hid hb2
                  clear hr2 hb2)
               | (refine wpList_store_row rfl 37 _ _ rfl w2.heap.size l2.toArray rfl rfl _ _ HN2.out HI2.out HZ2.out HO2.out ?_))
  obtain ⟨W, hW⟩ : ∃ W, W = (w2.alloc (.cells Tryd.zeroCells37 37)).setRow w2.heap.size l2.toArray := ⟨_, rfl⟩
  rw [← hW]
  have hb23 : Bel w2 W := by rw [hW]; exact below_setRow ((Bel.refl w2).alloc _) (Nat.le_refl _) _
  have hbW : Bel w W := (HB3.out.then_ HB2.out).then_ hb23
  have hbWd : Bel w W.drew := hbW.drew
  have hszW : W.heap.size = w2.heap.size + 1 := by rw [hW]; simp
  have hsz2 : w.heap.size + 3 ≤ w2.heap.size := by have := HB2.out.size; rw [actW_size] at this; exact this
  have hxb : W.heap[w.heap.size + 1]? = some (.cells #[.int .i64 3, .int .i64 file, .int .i64 n, .int .i64 torn, .slice A s.length cap] 33 (0, 0)) := hb23.deferred (HB2.out.deferred HX.out)
  have hzb : W.heap[w.heap.size + 1 + 1]? = some (.cells Tryd.zeroCells37 37 (0, 0)) := hb23.deferred (HB2.out.deferred HZ.out)
  have hob : W.heap[w2.heap.size]? = some (.cells l2.toArray 37 (0, 0)) := by rw [hW]; exact setRow_heap _ _ _ _ _ _ HN2.out
  have hu37 := Tryd.underlying37
  have hi37 : (Tryd.prog.info? 37).map (·.size) = some l2.length := by have := HI2.out; rw [List.size_toArray] at this; exact this
  have hone2 : ∀ v ∈ l2, v.oneCell' = true := fun v hv => Array.all_eq_true_iff_forall_mem.1 HO2.out v (by simpa using hv)
  have hzl : Tryd.zeroCells37.size = l2.length := by have := HZ2.out; rw [List.size_toArray] at this; exact this
  have hS : ActS w.heap.size w2.heap.size l2 2 (.int .i64 file) (.int .i64 n) W.drew := ⟨Blk.cell hxb 1, Blk.cell hxb 2, range_of_block hob, there_of_block hzb hzl⟩
  have HAP := cutM_any ((HD.out.tight).bel hbWd) HFIT.out (HG.out.bel hbWd) file n
  have HAPP := Lib.hid HAP
  have hS0 : (fun V : World => V.cell? ⟨w.heap.size + 1, 1, none⟩ = some (.int .i64 file) ∧ V.cell? ⟨w.heap.size + 1, 2, none⟩ = some (.int .i64 n) ∧ V.rangeAt w2.heap.size 0 l2 ∧ V.there (w.heap.size + 1 + 1) 0 l2.length) W.drew := hS
  have HSS := Lib.hid hS
  have HWS : Hid (w.heap.size + 3 ≤ W.drew.heap.size ∧ w2.heap.size < W.drew.heap.size ∧ w.heap.size ≤ w2.heap.size ∧ w2.heap.size ≠ w.heap.size + 1 + 1) := by show _ ∧ _; refine ⟨?_, ?_, ?_, ?_⟩ <;> first | omega | (show _ ≤ W.heap.size; omega) | (show _ < W.heap.size; omega)
  have HBW := Lib.hid hbWd
  have HI37 := Lib.hid hi37
  clear HAP hS hzl hob hzb hxb hbW hbWd hszW hsz2 hb23 hW HI2 HO2 HZ2 HN2
  generalize hk : (m.cut file n).2 = k at *
  generalize hkw : (mw.cut file n).2 = kw at *
  clear hk hkw
  refine wp_region_noPanic ?_
  refine wp_region_held_drew (S := (fun V : World => V.cell? ⟨w.heap.size + 1, 1, none⟩ = some (.int .i64 file) ∧ V.cell? ⟨w.heap.size + 1, 2, none⟩ = some (.int .i64 n) ∧ V.rangeAt w2.heap.size 0 l2 ∧ V.there (w.heap.size + 1 + 1) 0 l2.length)) (by kernel_rfl) ?_ (fun hH0 => ?_)
  · (try dsimp only); (first | assumption | exact hS0 | exact hS4 | exact ActS.put hS4 HWS.out.2.2.2)
  refine wpAnyH_take (i := 0) (oi := _) (v := ?v0) rfl (by kernel_rfl) (by kernel_rfl) (by kernel_rfl) ?hq0 (Or.inl ⟨by rfl, ?hy0⟩) (by assumption) ?rest0
  case hq0 => exact fun _ _ _ h => h
  case hy0 => (intro w hSw; (try dsimp only at hSw); go_simp; try with_reducible rfl)
  try simp only [Act.put, List.setIfInBounds_toArray, List.set_cons_zero, List.set_cons_succ]
  refine wpAnyH_take (i := 1) (oi := _) (v := _) rfl (by kernel_rfl) (by kernel_rfl) (by kernel_rfl) ?hq1 (yieldsIf_load_mid (by rfl) _ _ rfl w2.heap.size 0 rfl l2 _ (fun V hV => hV.2.2.1) hu37 rfl hi37) (by assumption) ?rest1
  case hq1 => exact fun _ _ _ h => h
  try simp only [Act.put, List.setIfInBounds_toArray, List.set_cons_zero, List.set_cons_succ]
  refine wpAnyH_take (i := 2) (oi := _) (v := ?v2) rfl (by kernel_rfl) (by kernel_rfl) (by kernel_rfl) ?hq2 (Or.inl ⟨by rfl, ?hy2⟩) (by assumption) ?rest2
  case hq2 => exact fun _ _ _ h => h
  case hy2 => (intro w hSw; (try dsimp only at hSw); go_simp; try with_reducible rfl)
  try simp only [Act.put, List.setIfInBounds_toArray, List.set_cons_zero, List.set_cons_succ]
  refine wpAnyH_take (i := 3) (oi := _) (v := ?v3) rfl (by kernel_rfl) (by kernel_rfl) (by kernel_rfl) ?hq3 (Or.inl ⟨by rfl, ?hy3⟩) (by assumption) ?rest3
  case hq3 => exact fun _ _ _ h => h
  case hy3 => (intro w hSw; (try dsimp only at hSw); go_simp; try with_reducible rfl)
  try simp only [Act.put, List.setIfInBounds_toArray, List.set_cons_zero, List.set_cons_succ]
  refine wpAnyH_take (i := 4) (oi := _) (v := ?v4) rfl (by kernel_rfl) (by kernel_rfl) (by kernel_rfl) ?hq4 (Or.inl ⟨by rfl, ?hy4⟩) (by assumption) ?rest4
  case hq4 => exact fun _ _ _ h => h
  case hy4 => (intro w hSw; (try dsimp only at hSw); go_simp; try with_reducible rfl)
  try simp only [Act.put, List.setIfInBounds_toArray, List.set_cons_zero, List.set_cons_succ]
  refine wpAnyH_take (i := 5) (oi := _) (v := ?v5) rfl (by kernel_rfl) (by kernel_rfl) (by kernel_rfl) ?hq5 (Or.inl ⟨by rfl, ?hy5⟩) (by assumption) ?rest5
  case hq5 => exact fun _ _ _ h => h
  case hy5 => (intro w hSw; (try dsimp only at hSw); go_simp; try with_reducible rfl)
  try simp only [Act.put, List.setIfInBounds_toArray, List.set_cons_zero, List.set_cons_succ]
  refine wpAnyH_take (i := 6) (oi := _) (v := ?v6) rfl (by kernel_rfl) (by kernel_rfl) (by kernel_rfl) ?hq6 (Or.inl ⟨by rfl, ?hy6⟩) (by assumption) ?rest6
  case hq6 => exact fun _ _ _ h => h
  case hy6 => (intro w hSw; (try dsimp only at hSw); go_simp; try with_reducible rfl)
  try simp only [Act.put, List.setIfInBounds_toArray, List.set_cons_zero, List.set_cons_succ]
  refine wpAnyH_take (i := 9) (oi := _) (v := ?v9) rfl (by kernel_rfl) (by kernel_rfl) (by kernel_rfl) ?hq9 (Or.inl ⟨by rfl, ?hy9⟩) (by assumption) ?rest9
  case hq9 => exact fun _ _ _ h => h
  case hy9 => (intro w hSw; (try dsimp only at hSw); go_simp; try with_reducible rfl)
  try simp only [Act.put, List.setIfInBounds_toArray, List.set_cons_zero, List.set_cons_succ]
  refine wpAnyH_ready (rs := [7]) (by kernel_rfl) (by simp) ?_
  refine AllReadyH.cons (o := _) rfl (fun K hK => ?_) AllReadyH.nil
  go_simp
  (go_at_call 39; refine HAPP.out.mono ?_; rintro e w4 ⟨rfl, fp4, hD4, hO4⟩; have hS4 := HSS.out.opp hO4 HWS.out.1 HWS.out.2.1 (fun b h => h.2) HWS.out.2.2.1)
  try (go_wp2_with fail)
  refine hK.out _ _ ?_ (fun hH1 => ?_)
  · (try dsimp only); (first | assumption | exact hS0 | exact hS4 | exact ActS.put hS4 HWS.out.2.2.2)
  clear hK K hH0
  try simp only [Act.put, List.setIfInBounds_toArray, List.set_cons_zero, List.set_cons_succ]
  refine wpAnyH_ready (rs := [8]) (by kernel_rfl) (by simp) ?_
  refine AllReadyH.cons (o := _) rfl (fun K hK => ?_) AllReadyH.nil
  go_simp
  (go_at_call 11; refine (num_any _ _).mono ?_; rintro e w' ⟨rfl, rfl⟩)
  try (go_wp2_with fail)
  refine hK.out _ _ ?_ (fun hH2 => ?_)
  · (try dsimp only); (first | assumption | exact hS0 | exact hS4 | exact ActS.put hS4 HWS.out.2.2.2)
  clear hK K hH1
  try simp only [Act.put, List.setIfInBounds_toArray, List.set_cons_zero, List.set_cons_succ]
  refine wpAnyH_take (i := 10) (oi := _) (v := ?v10) rfl (by kernel_rfl) (by kernel_rfl) (by kernel_rfl) ?hq10 (Or.inl ⟨by rfl, ?hy10⟩) (by assumption) ?rest10
  case hq10 => exact fun _ _ _ h => h
  case hy10 => (intro w hSw; (try dsimp only at hSw); go_simp; try with_reducible rfl)
  try simp only [Act.put, List.setIfInBounds_toArray, List.set_cons_zero, List.set_cons_succ]
  refine wpAnyH_ready (rs := [11]) (by kernel_rfl) (by simp) ?_
  refine AllReadyH.cons (o := _) rfl (fun K hK => ?_) AllReadyH.nil
  go_simp
  refine hK.out _ _ ?_ (fun hH3 => ?_)
  · (try dsimp only); (first | assumption | exact hS0 | exact hS4 | exact ActS.put hS4 HWS.out.2.2.2)
  clear hK K hH2
  try simp only [Act.put, List.setIfInBounds_toArray, List.set_cons_zero, List.set_cons_succ]
  refine wpAnyH_ready (rs := [12]) (by kernel_rfl) (by simp) ?_
  refine AllReadyH.cons (o := _) rfl (fun K hK => ?_) AllReadyH.nil
  rw [if_pos (by rfl)]
  refine wp_store_mid _ _ _ rfl _ _ l2.toArray rfl rfl (hS4.2.2.2) (by rw [List.size_toArray]; exact hi37) (all_oneCell_toArray hone2) ?_
  simp only [Act.put, List.setIfInBounds_toArray, List.set_cons_zero, List.set_cons_succ, List.toList_toArray]
  refine hK.out _ _ ?_ (fun hH4 => ?_)
  · (try dsimp only); (first | assumption | exact hS0 | exact hS4 | exact ActS.put hS4 HWS.out.2.2.2)
  clear hK K hH3
  try simp only [Act.put, List.setIfInBounds_toArray, List.set_cons_zero, List.set_cons_succ]
  refine wpAnyH_ready (rs := [13]) (by kernel_rfl) (by simp) ?_
  refine AllReadyH.cons (o := _) rfl (fun K hK => ?_) AllReadyH.nil
  go_simp
  refine hK.out _ _ ?_ (fun hH5 => ?_)
  · (try dsimp only); (first | assumption | exact hS0 | exact hS4 | exact ActS.put hS4 HWS.out.2.2.2)
  clear hK K hH4
  try simp only [Act.put, List.setIfInBounds_toArray, List.set_cons_zero, List.set_cons_succ]
  refine wpAnyH_done (by kernel_rfl) ?_ _
  refine NoPanic.normal ?_
  have HD4 := Lib.hid hD4
  have HO4 := Lib.hid hO4
  have HS4 := Lib.hid hS4
  clear hD4 hO4 hS4 hS0
  go_wp2
  refine bodyPost_ret (v := .tuple #[.pointer (some ⟨bd, 0, none⟩), .agg l2.toArray, .bool (k == kw)]) (results_row3 rfl _ _ (w.heap.size + 1 + 1) l2 _ _ rfl rfl rfl (World.rangeAt_setCells_same _ _ _ _ HS4.out.2.2.2) HI37.out) rfl ?_
  exact act_end HBW.out HWS.out.1 HD4.out HO4.out
end Go.Proofs.YthmigmiojifnkaaDoor
