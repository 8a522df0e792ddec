/-
  The document's log: Open.
-/
import Derived.Test.YtiajggmnfaidjaaGreatDoorRi
import Derived.Test.YtiajggmnfaidjaaGreatDoorRd2
import Derived.Great.FillDense
set_option linter.unusedVariables false
set_option linter.unusedSimpArgs false
set_option linter.unusedVariables false
set_option linter.unusedSimpArgs false
namespace Go.Proofs.YtiajggmnfaidjaaGreatDoor
open Go.RowKit

theorem wpList_build_any {P : Program} {ops : Array Oper} {rest : List Oper} {o : Oper} {a : Act} {w : World} {Q : Exit → Act → World → Prop} (hg : o.guard = none) (t : TypeId) (parts : Array (Nat × Operand)) (ho : o.op = .build t parts)
    (cells : Array Value) (hf : P.built t (parts.map fun (i, x) => (i, a.eval x)).toList = some cells)
    (h : wpList P ops Q rest (a.put o.dst (.agg cells)) w) : wpList P ops Q (o :: rest) a w :=
  wpList_build hg t parts ho (by rw [hf]; rfl) (by rw [hf]; exact h)
theorem wpList_build3 {P : Program} {ops : Array Oper} {rest : List Oper} {o : Oper} {a : Act} {w : World} {Q : Exit → Act → World → Prop} (hg : o.guard = none) (t : TypeId) (x y z : Operand) (ho : o.op = .build t #[(0, x), (1, y), (2, z)])
    (vx vy vz : Value) (hx : a.eval x = vx) (hy : a.eval y = vy) (hz : a.eval z = vz)
    (cells : Array Value) (hf : P.built t [(0, vx), (1, vy), (2, vz)] = some cells)
    (h : wpList P ops Q rest (a.put o.dst (.agg cells)) w) : wpList P ops Q (o :: rest) a w :=
  wpList_build_any hg t _ ho cells (by simpa [hx, hy, hz] using hf) h
theorem foldl_cells (off : Nat) (v : Value) (cs : Array Value) :
    (v.cells.zipIdx.foldl (fun cs (x : Value × Nat) => cs.setIfInBounds (off + x.2) x.1) cs).size = cs.size ∧
    ∀ k, (v.cells.zipIdx.foldl (fun cs (x : Value × Nat) => cs.setIfInBounds (off + x.2) x.1) cs)[k]? =
      if off ≤ k ∧ k < off + v.cells.size ∧ k < cs.size then v.cells[k - off]? else cs[k]? := by
  have := Go.Great.foldl_set off v.cells.toList 0 cs
  rw [← Array.foldl_toList, Array.toList_zipIdx]
  refine ⟨this.1, fun k => ?_⟩
  rw [this.2 k]
  simp
/-- What the parts of a log make. -/
theorem fill3 (z ds : Array Value) (f t : Value) (hz : z.size = 68) (hs : ds.size = 66) (hf : f.cells = #[f]) (ht : t.cells = #[t]) :
    Instr.fill (#[(0, 66), (66, 1), (67, 1)][·]?) z [(0, .agg ds), (1, f), (2, t)] = some (ds ++ #[f, t]) := by
  have e0 : (#[(0, 66), (66, 1), (67, 1)] : Array (Nat × Nat))[0]? = some (0, 66) := rfl
  have e1 : (#[(0, 66), (66, 1), (67, 1)] : Array (Nat × Nat))[1]? = some (66, 1) := rfl
  have e2 : (#[(0, 66), (66, 1), (67, 1)] : Array (Nat × Nat))[2]? = some (67, 1) := rfl
  have hd : (Value.agg ds).cells = ds := rfl
  obtain ⟨s1, k1⟩ := foldl_cells 0 (.agg ds) z
  rw [hd] at s1 k1
  unfold Instr.fill
  simp only [e0, hd]
  rw [if_neg (by simp [hs, hz])]
  generalize (ds.zipIdx.foldl (fun cs (x : Value × Nat) => cs.setIfInBounds (0 + x.2) x.1) z) = z1 at *
  obtain ⟨s2, k2⟩ := foldl_cells 66 f z1
  rw [hf] at s2 k2
  unfold Instr.fill
  simp only [e1, hf]
  rw [if_neg (by simp [s1, hz])]
  generalize (#[f].zipIdx.foldl (fun cs (x : Value × Nat) => cs.setIfInBounds (66 + x.2) x.1) z1) = z2 at *
  obtain ⟨s3, k3⟩ := foldl_cells 67 t z2
  rw [ht] at s3 k3
  unfold Instr.fill
  simp only [e2, ht]
  rw [if_neg (by simp [s1, s2, hz])]
  generalize (#[t].zipIdx.foldl (fun cs (x : Value × Nat) => cs.setIfInBounds (67 + x.2) x.1) z2) = z3 at *
  unfold Instr.fill
  congr 1
  apply Array.ext_getElem?
  intro k
  rw [k3 k, k2 k, k1 k, s1, s2, s1, hz, hs]
  simp only [List.size_toArray, List.length_cons, List.length_nil, Nat.zero_add]
  by_cases h67 : k = 67
  · subst h67
    rw [if_pos (by omega), Array.getElem?_append_right (by omega), hs]
    rfl
  · rw [if_neg (by omega)]
    by_cases h66 : k = 66
    · subst h66
      rw [if_pos (by omega), Array.getElem?_append_right (by omega), hs]
      rfl
    · rw [if_neg (by omega)]
      by_cases hlt : k < 66
      · rw [if_pos (by omega), Array.getElem?_append_left (by omega)]
        simp
      · rw [if_neg (by omega), Array.getElem?_eq_none (by omega), Array.getElem?_eq_none (by simp [hs]; omega)]
theorem built_of {P : Program} {t : TypeId} {n : Nat} {pl : List (Nat × Nat)} {parts : List (Nat × Value)} {r : Array Value}
    (h : (match P.info? t, P.underlying t with
      | some it, some (.struct fields) => (match it.zero, fields.toList.mapM (fun f => (P.info? f.type).map fun i => (f.offset, i.size)) with | some z, some places => some (z.cells.size, places) | _, _ => none)
      | _, _ => none) = some (n, pl))
    (hr : ∀ z : Array Value, z.size = n → Instr.fill (pl.toArray[·]?) z parts = some r) : P.built t parts = some r := by
  unfold Program.built
  cases h1 : P.info? t with
  | none => simp [h1] at h
  | some it =>
    cases h2 : P.underlying t with
    | none => simp [h1, h2] at h
    | some d =>
      cases d <;> try (simp [h1, h2] at h; done)
      case struct fields =>
        cases h3 : it.zero with
        | none => simp [h1, h2, h3] at h
        | some z =>
          cases h4 : fields.toList.mapM (fun f => (P.info? f.type).map fun i => (f.offset, i.size)) with
          | none => simp [h1, h2, h3, h4] at h
          | some places =>
            simp only [h1, h2, h3, h4, Option.some.injEq, Prod.mk.injEq] at h
            obtain ⟨rfl, rfl⟩ := h
            simp only [h3, h4]
            exact hr _ rfl
theorem builtLog (ds : Array Value) (hs : ds.size = 66) (f t : Int) : Tryz.prog.built 38 [(0, .agg ds), (1, .int .i64 f), (2, .int .i64 t)] = some (ds ++ #[.int .i64 f, .int .i64 t]) :=
  built_of (n := 68) (pl := [(0, 66), (66, 1), (67, 1)]) (by kernel_rfl) fun z hz => fill3 z ds _ _ hz hs rfl rfl
theorem below_setCells {B b : Nat} {w0 : World} (hb : B ≤ b) : ∀ (vs : List Value) (o : Nat) (w : World), Below B w0 w → Below B w0 (w.setCells b o vs)
  | [], _, _, h => h
  | v :: r, o, w, h => by
    rw [World.setCells]
    exact below_setCells hb r (o + 1) _ (h.setCell hb v)
theorem there_blk {w : World} {b : Nat} {T : TypeId} {cs : Array Value} (h : w.heap[b]? = some (.cells cs T (0, 0))) (n : Nat) (hn : n ≤ cs.size) : w.there b 0 n := fun j hj => by
  rw [Nat.zero_add]
  exact ⟨by rw [Blk.cell h]; simp; omega, Blk.frozen h _⟩
theorem RThs.apart {w w' : World} {A : Option Addr} {l : List Th} (h : RThs w A l) {b : Nat} {cs : Array Value} {T : TypeId} (hb : w.heap[b]? = some (.cells cs T (0, 0))) (hn : ∀ (i : Nat) (v : Bool), cs[i]? = some (.bool v) → False)
    (hk : ∀ k, k ≠ b → w'.heap[k]? = w.heap[k]?) (hs : w'.heap.size = w.heap.size) : RThs w' A l := fun h0 => by
  obtain ⟨g, off, e, hg, hc⟩ := h h0
  have hgb : g ≠ b := fun e => by
    subst e
    obtain ⟨x, hx⟩ : ∃ x, l[0]? = some x := ⟨_, List.getElem?_eq_getElem h0⟩
    have h2 := rths_at l 0 2 x hx (by omega)
    have h3 := hc 2 (.bool x.cuts) (by rw [show (2 : Nat) = 0 * 4 + 2 from rfl, h2]; rfl)
    rw [Blk.cell hb] at h3
    exact hn _ _ h3
  refine ⟨g, off, e, by omega, fun j u hu => ?_⟩
  have := hc j u hu
  unfold World.cell? at this ⊢
  rw [hk g hgb]
  exact this
theorem RDis.apart {w w' : World} {ds : Array Value} {m : DM} (h : RDis w ds m) {b : Nat} {cs : Array Value} {T : TypeId} (hb : w.heap[b]? = some (.cells cs T (0, 0))) (hn : ∀ (i : Nat) (v : Bool), cs[i]? = some (.bool v) → False)
    (hk : ∀ k, k ≠ b → w'.heap[k]? = w.heap[k]?) (hs : w'.heap.size = w.heap.size) : RDis w' ds m := by
  obtain ⟨A, cap, h1, h2⟩ := h
  exact ⟨A, cap, h1, h2.apart hb hn hk hs⟩
theorem RDis.nobool {w : World} {ds : Array Value} {m : DM} (h : RDis w ds m) (i : Nat) (v : Bool) (hv : ds[i]? = some (.bool v)) : False := by
  obtain ⟨A, cap, h1, h2⟩ := h
  have hi := (Array.getElem?_eq_some_iff.1 hv).1
  have hs := h1.size
  by_cases h0 : i = 0
  · subst h0; rw [h1.room] at hv; cases hv
  · by_cases h65 : i = 65
    · subst h65; rw [h1.loose] at hv; cases hv
    · have := h1.syn (i - 1) (by omega)
      rw [show 1 + (i - 1) = i by omega, hv] at this
      cases this
theorem RLog.nobool {w : World} {cs : Array Value} {m : DM} {f t : Int} (h : RLog w cs m f t) (i : Nat) (v : Bool) (hv : cs[i]? = some (.bool v)) : False := by
  obtain ⟨ds, hd, rfl⟩ := h
  rw [Array.getElem?_append] at hv
  split at hv
  · exact hd.nobool i v hv
  · rename_i hlt
    have hi := (Array.getElem?_eq_some_iff.1 hv).1
    simp at hi
    have h2 : i - ds.size = 0 ∨ i - ds.size = 1 := by omega
    rcases h2 with h | h <;> (rw [h] at hv; simp at hv)
theorem zeroL_nobool (i : Nat) (v : Bool) (hv : Tryz.zeroCells38[i]? = some (.bool v)) : False := by
  have h := (Array.all_eq_true.1 (show Tryz.zeroCells38.all (fun v => match v with | .bool _ => false | _ => true) = true by kernel_rfl)) i (Array.getElem?_eq_some_iff.1 hv).1
  have e := (Array.getElem?_eq_some_iff.1 hv).2
  rw [e] at h
  cases h
theorem setCells_else (b : Nat) : ∀ (vs : List Value) (o : Nat) (w : World), (∀ k, k ≠ b → (w.setCells b o vs).heap[k]? = w.heap[k]?) ∧ (w.setCells b o vs).heap.size = w.heap.size
  | [], _, _ => ⟨fun _ _ => rfl, rfl⟩
  | v :: r, o, w => by
    obtain ⟨h1, h2⟩ := setCells_else b r (o + 1) (w.setCell ⟨b, o, none⟩ v)
    refine ⟨fun k hk => ?_, ?_⟩
    · rw [World.setCells]
      exact (h1 k hk).trans (Below.heap_setCell _ _ _ _ hk)
    · rw [World.setCells, h2]
      simp
theorem setRow_else (w : World) (b : Nat) (cs : Array Value) : (∀ k, k ≠ b → (w.setRow b cs).heap[k]? = w.heap[k]?) ∧ (w.setRow b cs).heap.size = w.heap.size := ⟨fun k hk => setRow_other w b k cs hk, by simp [World.setRow]⟩
/-- Two blocks, the disk's and the result's. -/
noncomputable def twoL (w : World) (ds : Array Value) : World := (w.alloc (.cells ds 36)).alloc (.cells Tryz.zeroCells38 38)
theorem twoL_bel (w : World) (ds : Array Value) : Bel w (twoL w ds) := ((Bel.refl w).alloc _).alloc _
theorem twoL_fst (w : World) (ds : Array Value) : (twoL w ds).heap[w.heap.size]? = some (.cells ds 36 (0, 0)) := (Bel.refl (w.alloc (.cells ds 36))).alloc (.cells Tryz.zeroCells38 38) |>.deferred (World.alloc_heap_new w _)
theorem twoL_snd (w : World) (ds : Array Value) : (twoL w ds).heap[w.heap.size + 1]? = some (.cells Tryz.zeroCells38 38 (0, 0)) := by
  have := World.alloc_heap_new (w.alloc (.cells ds 36)) (.cells Tryz.zeroCells38 38)
  rwa [World.size_alloc] at this
theorem LaidL.whole {w : World} {b : Nat} {ds : Array Value} {f t : Int} (h : LaidL w b ds f t) (hs : ds.size = 66) : w.rangeAt b 0 (ds ++ (#[.int .i64 f, .int .i64 t] : Array Value)).toList := fun j v hv => by
  rw [Array.toList_append, List.getElem?_append] at hv
  split at hv
  · exact h.disk j v hv
  · rename_i hj
    simp [hs] at hj hv
    have h2 : j = 66 ∨ j = 67 := by
      have := (List.getElem?_eq_some_iff.1 hv).1
      simp at this
      omega
    rcases h2 with rfl | rfl
    · simp at hv
      subst hv
      rw [Nat.zero_add]
      exact h.file
    · simp at hv
      subst hv
      rw [Nat.zero_add]
      exact h.torn
theorem infoL (ds : Array Value) (hs : ds.size = 66) (f t : Value) : (Tryz.prog.info? 38).map (·.size) = some (ds ++ #[f, t]).size := by rw [Array.size_append, hs]; kernel_rfl
theorem zeroL (ds : Array Value) (hs : ds.size = 66) (f t : Value) : Tryz.zeroCells38.size = (ds ++ #[f, t]).size := by rw [Array.size_append, hs]; kernel_rfl
theorem oneL (ds : Array Value) (h1 : ds.all (·.oneCell') = true) (f t : Int) : (ds ++ (#[.int .i64 f, .int .i64 t] : Array Value)).all (·.oneCell') = true := by
  rw [Array.all_append, h1]
  simp [Value.oneCell']
set_option maxRecDepth 100000 in
set_option maxHeartbeats 1000000 in
theorem r10Open_fresh {w : World} {ds : Array Value} {m : DM} (hd : RDis w ds m) (hfit : RFit m) (hn : m.loose.length < 1000000) (file : Int) (h0 : 0 ≤ file) (h64 : file < 64)
    (xs : List (List UInt8)) (t : List UInt8) (hx : ∀ x ∈ xs, x.length ≤ 60000) (ht : firstL t = none) (hs : m.files file = recsN xs ++ t) :
    Calls Tryz.prog 9 #[.agg ds, .int .i64 file] w fun e w' => ∃ cs, e = .returned (.agg cs) ∧ RLog w' cs (m.opened file (recsN xs).length) file t.length ∧ Bel w w' ∧ FreshR w ds cs := by
  have hsl : (m.files file).length = (recsN xs).length + t.length := by rw [hs, List.length_append]
  have hlen : (m.files file).length ≤ 16777216 := by rw [hfit.files]; exact hfit.len _ _ h0 h64
  have hsz : (⟨(m.files file).toArray⟩ : ByteArray).size = (m.files file).length := rfl
  have HI := Lib.hid hd.info
  have hds := hd.size
  have HDS := Lib.hid hds
  have HONE := Lib.hid hd.one
  obtain ⟨f, rfl⟩ : ∃ f : Nat, file = f := ⟨file.toNat, by omega⟩
  have HD := Lib.hid hd
  have HFIT := Lib.hid hfit
  have HA := Lib.hid (twoL_fst w ds)
  have HB := Lib.hid (twoL_snd w ds)
  have HF := Lib.hid (rdFile_any (hd.bel (twoL_bel w ds)) hfit f (by omega))
  have HWH := Lib.hid (fun W => r10Whole_any xs t hx ht _ hs (by omega) W)
  have hlI : ((m.files f).length : Int) ≤ 16777216 := by omega
  obtain ⟨tl, htl⟩ : ∃ tl : Int, tl = t.length := ⟨_, rfl⟩
  have hxI : ((m.files f).length : Int) - (recsN xs).length = tl := by omega
  have htl0 : 0 ≤ tl := by omega
  have htl1 : tl ≤ 16777216 := by omega
  rw [← htl]
  have HBU := Lib.hid (builtLog ds hds f tl)
  have HIL : Hid ((Tryz.prog.info? 38).map (·.size) = some (ds ++ (#[.int .i64 f, .int .i64 tl] : Array Value)).size) := infoL ds hds _ _
  have HZL : Hid (Tryz.zeroCells38.size = (ds ++ (#[.int .i64 f, .int .i64 tl] : Array Value)).size) := zeroL ds hds _ _
  have HOL := Lib.hid (oneL ds HONE.out f tl)
  by_cases htn : t.length = 0
  · have hop : m.opened f (recsN xs).length = m := by unfold DM.opened; rw [if_pos (by omega)]
    rw [hop]
    have htI : ¬ ((0 : Int) < tl) := by omega
    clear hd hfit hx ht hs hop htn htl hsl hds
    generalize hcs : ds ++ (#[.int .i64 f, .int .i64 tl] : Array Value) = cs at *
    have HCS := Lib.hid hcs
    clear hcs
    go_enter Tryz.func9, Tryz.ntmps9
    go_wp2_with (first
                 | (refine wpList_load_row rfl 36 _ rfl w.heap.size rfl _ ds (0, 0) _ HA.out Tryz.underlying36 rfl HI.out ?_)
                 | (go_at_call 23; refine HF.out.mono ?_; rintro e w1 ⟨rfl, hb1⟩; have HB1 := Lib.hid hb1; clear hb1)
                 | (go_at_call 24; refine (HWH.out _).mono ?_; rintro e w2 ⟨rfl, hb2⟩; have HB2 := Lib.hid (HB1.out.then_ hb2); have HA2 := Lib.hid ((HB1.out.then_ hb2).deferred HA.out); have HBB2 := Lib.hid ((HB1.out.then_ hb2).deferred HB.out); clear hb2)
                 | (refine wpList_load_row rfl 36 _ rfl w.heap.size rfl _ ds (0, 0) _ HA2.out Tryz.underlying36 rfl HI.out ?_)
                 | (refine wpList_build3 rfl 38 _ _ _ rfl (.agg ds) (.int .i64 f) (.int .i64 tl) rfl rfl rfl cs HBU.out ?_)
                 | (refine wpList_store_row rfl 38 (.tmp 7) _ rfl w2.heap.size cs rfl rfl _ _ (World.alloc_heap_new _ _) HIL.out HZL.out HOL.out ?_
                    rw [World.setRow_alloc_new]
                    have hb3 : Bel w2 (w2.alloc (.cells cs 38)) := (Bel.refl w2).alloc _
                    have HL3 : Hid (LaidL (w2.alloc (.cells cs 38)) w2.heap.size ds f tl) := LaidL.of HDS.out (by rw [HCS.out]; exact World.alloc_heap_new _ _)
                    have c67 := HL3.out.torn
                    have HA3 := Lib.hid (hb3.deferred HA2.out)
                    have HBB3 := Lib.hid (hb3.deferred HBB2.out)
                    have HB3 := Lib.hid (HB2.out.then_ hb3)
                    clear hb3)
                 | (refine wpList_load_row rfl 38 (.tmp 7) rfl w2.heap.size rfl _ cs (0, 0) _ (World.alloc_heap_new _ _) Tryz.underlying38 rfl HIL.out ?_)
                 | (refine wpList_store_row rfl 38 (.tmp 4) _ rfl (w.heap.size + 1) cs rfl rfl _ _ HBB3.out HIL.out HZL.out HOL.out ?_))
    have hbe : Bel w ((w2.alloc (.cells cs 38)).setRow (w.heap.size + 1) cs) := below_setRow ((twoL_bel w ds).then_ HB3.out) (by omega) cs
    exact bodyPost_ret (v := .agg cs) (results_cell_row rfl _ _ (w.heap.size + 1) _ _ _ _ rfl (setRow_heap _ _ _ _ _ _ HBB3.out) Tryz.underlying38 rfl HIL.out) rfl ⟨cs, rfl, ⟨ds, HD.out.bel hbe, HCS.out.symm⟩, hbe, .inl (by rw [← HCS.out, Array.getElem?_append_left (by rw [HDS.out]; omega)])⟩
  · have hop : m.opened f (recsN xs).length = (m.cut f (recsN xs).length).1 := by unfold DM.opened; rw [if_neg (by omega)]
    rw [hop]
    have htI : (0 : Int) < tl := by omega
    clear hd hfit hx ht hs hop htn htl hsl
    generalize hcs : ds ++ (#[.int .i64 f, .int .i64 tl] : Array Value) = cs at *
    have HCS := Lib.hid hcs
    clear hcs hds
    go_enter Tryz.func9, Tryz.ntmps9
    go_wp2_with (first
                 | (refine wpList_load_row rfl 36 _ rfl w.heap.size rfl _ ds (0, 0) _ HA.out Tryz.underlying36 rfl HI.out ?_)
                 | (go_at_call 23; refine HF.out.mono ?_; rintro e w1 ⟨rfl, hb1⟩; have HB1 := Lib.hid hb1; clear hb1)
                 | (go_at_call 24; refine (HWH.out _).mono ?_; rintro e w2 ⟨rfl, hb2⟩; have HB2 := Lib.hid (HB1.out.then_ hb2); have HA2 := Lib.hid ((HB1.out.then_ hb2).deferred HA.out); have HBB2 := Lib.hid ((HB1.out.then_ hb2).deferred HB.out); clear hb2)
                 | (refine wpList_load_row rfl 36 _ rfl w.heap.size rfl _ ds (0, 0) _ HA2.out Tryz.underlying36 rfl HI.out ?_)
                 | (refine wpList_build3 rfl 38 _ _ _ rfl (.agg ds) (.int .i64 f) (.int .i64 tl) rfl rfl rfl cs HBU.out ?_)
                 | (refine wpList_store_row rfl 38 (.tmp 7) _ rfl w2.heap.size cs rfl rfl _ _ (World.alloc_heap_new _ _) HIL.out HZL.out HOL.out ?_
                    rw [World.setRow_alloc_new]
                    have hb3 : Bel w2 (w2.alloc (.cells cs 38)) := (Bel.refl w2).alloc _
                    have HL3 : Hid (LaidL (w2.alloc (.cells cs 38)) w2.heap.size ds f tl) := LaidL.of HDS.out (by rw [HCS.out]; exact World.alloc_heap_new _ _)
                    have c67 := HL3.out.torn
                    have HA3 := Lib.hid (hb3.deferred HA2.out)
                    have HBB3 := Lib.hid (hb3.deferred HBB2.out)
                    have HB3 := Lib.hid (HB2.out.then_ hb3)
                    have HCU := Lib.hid (rdCut_fresh ((HD.out.bel (twoL_bel w ds)).bel HB3.out) HFIT.out hn f (recsN xs).length)
                    clear hb3)
                 | (refine wpList_load_row rfl 36 _ rfl w.heap.size rfl _ ds (0, 0) _ HA3.out Tryz.underlying36 rfl HI.out ?_)
                 | (go_at_call 25; refine HCU.out.mono ?_; rintro e w4 ⟨ds4, rfl, hd4, hb4, hfr4⟩
                    have HD4 := Lib.hid hd4
                    have HF4 := Lib.hid hfr4
                    have HS3 := Lib.hid HB3.out.size
                    have HB4 := Lib.hid (HB3.out.then_ hb4)
                    have HT4 : Hid (w4.there w2.heap.size 0 ds4.size) := there_blk (hb4.deferred (World.alloc_heap_new w2 (.cells cs 38))) _ (by rw [hd4.size, ← HCS.out, Array.size_append, HDS.out]; omega)
                    have HB44 := Lib.hid (hb4.deferred (World.alloc_heap_new w2 (.cells cs 38)))
                    have HI4 := Lib.hid hd4.info
                    have HO4 := Lib.hid hd4.one
                    have HL4 := Lib.hid (HL3.out.bel hb4)
                    clear hd4 hb4 hfr4)
                 | (refine wpList_store_mid rfl 36 (.tmp 30) (.tmp 28) rfl w2.heap.size 0 ds4 rfl rfl HT4.out HI4.out HO4.out ?_
                    obtain ⟨W5, hW5⟩ : ∃ W5, W5 = w4.setCells w2.heap.size 0 ds4.toList := ⟨_, rfl⟩
                    rw [← hW5]
                    have hb5 : Below (twoL w ds).heap.size (twoL w ds) W5 := by rw [hW5]; exact below_setCells HB2.out.size _ _ _ HB4.out
                    have HB5 := Lib.hid hb5
                    have HL5 : Hid (LaidL W5 w2.heap.size ds4 f tl) := by
                      rw [hW5]
                      refine ⟨World.rangeAt_setCells_same _ _ _ _ (by simpa using HT4.out), ?_, ?_⟩
                      · rw [World.cell?_setCells_out _ _ _ _ _ (fun _ _ => .inr (by simp [HD4.out.size]))]
                        exact HL4.out.file
                      · rw [World.cell?_setCells_out _ _ _ _ _ (fun _ _ => .inr (by simp [HD4.out.size]))]
                        exact HL4.out.torn
                    have HBB5 := Lib.hid (Bel.deferred hb5 HB.out)
                    have HD5 : Hid (RDis W5 ds4 (m.cut f (recsN xs).length).1) := by
                      obtain ⟨k1, k2⟩ := setCells_else w2.heap.size ds4.toList 0 w4
                      rw [← hW5] at k1 k2
                      exact HD4.out.apart HB44.out (RLog.nobool (m := m) (f := f) (t := tl) (w := w) ⟨ds, HD.out, HCS.out.symm⟩) k1 k2
                    clear hb5 hW5
                    have HI5 : Hid ((Tryz.prog.info? 38).map (·.size) = some (ds4 ++ (#[.int .i64 f, .int .i64 tl] : Array Value)).size) := infoL ds4 HD4.out.size _ _
                    have HZ5 : Hid (Tryz.zeroCells38.size = (ds4 ++ (#[.int .i64 f, .int .i64 tl] : Array Value)).size) := zeroL ds4 HD4.out.size _ _
                    have HO5 := Lib.hid (oneL ds4 HO4.out f tl)
                    have HR5 : Hid (W5.rangeAt w2.heap.size 0 (ds4 ++ (#[.int .i64 f, .int .i64 tl] : Array Value)).toList) := HL5.out.whole HD4.out.size
                    have HF5 : Hid (FreshR w ds (ds4 ++ (#[.int .i64 f, .int .i64 tl] : Array Value))) := by
                      have e65 : (ds4 ++ (#[.int .i64 f, .int .i64 tl] : Array Value))[65]? = ds4[65]? := Array.getElem?_append_left (by rw [HD4.out.size]; omega)
                      have h1 := HS3.out
                      have h2 := (twoL_bel w ds).size
                      rcases HF4.out with h | ⟨g, off, n, c, h, hg⟩
                      · exact .inl (e65.trans h)
                      · exact .inr ⟨g, off, n, c, e65.trans h, by omega⟩
                    have HE5 : Hid (RDis W5 ds4 (m.cut f (recsN xs).length).1 → RLog W5 (ds4 ++ (#[.int .i64 f, .int .i64 tl] : Array Value)) (m.cut f (recsN xs).length).1 f tl) := fun h => ⟨ds4, h, rfl⟩
                    generalize ds4 ++ (#[.int .i64 f, .int .i64 tl] : Array Value) = cs5 at *)
                 | (refine wpList_load_arr rfl 38 (.tmp 7) rfl w2.heap.size 0 rfl cs5 _ HR5.out Tryz.underlying38 rfl HI5.out ?_)
                 | (refine wpList_store_row rfl 38 (.tmp 4) _ rfl (w.heap.size + 1) cs5 rfl rfl _ _ HBB5.out HI5.out HZ5.out HO5.out ?_))
    have hbe : Bel w (W5.setRow (w.heap.size + 1) cs5) := below_setRow ((twoL_bel w ds).then_ HB5.out) (by omega) cs5
    refine bodyPost_ret (v := .agg cs5) (results_cell_row rfl _ _ (w.heap.size + 1) _ _ _ _ rfl (setRow_heap _ _ _ _ _ _ HBB5.out) Tryz.underlying38 rfl HI5.out) rfl ⟨cs5, rfl, ?_, hbe, HF5.out⟩
    obtain ⟨k1, k2⟩ := setRow_else W5 (w.heap.size + 1) cs5
    obtain ⟨ds5, hd5, e5⟩ := HE5.out HD5.out
    exact ⟨ds5, hd5.apart HBB5.out zeroL_nobool k1 k2, e5⟩
theorem r10Open_any {w : World} {ds : Array Value} {m : DM} (hd : RDis w ds m) (hfit : RFit m) (hn : m.loose.length < 1000000) (file : Int) (h0 : 0 ≤ file) (h64 : file < 64)
    (xs : List (List UInt8)) (t : List UInt8) (hx : ∀ x ∈ xs, x.length ≤ 60000) (ht : firstL t = none) (hs : m.files file = recsN xs ++ t) :
    Calls Tryz.prog 9 #[.agg ds, .int .i64 file] w fun e w' => ∃ cs, e = .returned (.agg cs) ∧ RLog w' cs (m.opened file (recsN xs).length) file t.length ∧ Bel w w' :=
  (r10Open_fresh hd hfit hn file h0 h64 xs t hx ht hs).mono fun _ _ ⟨cs, h1, h2, h3, _⟩ => ⟨cs, h1, h2, h3⟩
end Go.Proofs.YtiajggmnfaidjaaGreatDoor
