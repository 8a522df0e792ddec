/-
  The document's log: what it is, as values; End, All, Read, From.
-/
import Derived.Test.YtiajggmnfaidjaaGreatDoorRg
import Derived.Test.YtiajggmnfaidjaaGreatDoorLa
import Derived.Deep.MidRow
set_option linter.unusedVariables false
set_option linter.unusedSimpArgs false
set_option linter.unusedVariables false
set_option linter.unusedSimpArgs false
namespace Go.Proofs.YtiajggmnfaidjaaGreatDoor
open Go.RowKit

theorem wpList_load_arr {P : Program} {ops : Array Oper} {rest : List Oper} {op : Oper} {a : Act} {w : World} {Q : Exit → Act → World → Prop} (hgd : op.guard = none) (ty : TypeId) (x : Operand) (ho : op.op = .load ty x)
    (b o : Nat) (hx : a.eval x = .pointer (some ⟨b, o, none⟩)) (cs : Array Value) (d : TypeDesc) (hc : w.rangeAt b o cs.toList)
    (hu : P.underlying ty = some d) (hd : d.isRow = true) (hi : (P.info? ty).map (·.size) = some cs.size)
    (h : wpList P ops Q rest (a.put op.dst (.agg cs)) w) : wpList P ops Q (op :: rest) a w :=
  wpList_load_mid hgd ty x ho b o hx cs.toList d hc hu hd (by simpa using hi) (by simpa using h)
/-- A log as the document's: its disk's cells, the file, how many bytes were torn. -/
def RLog (w : World) (cs : Array Value) (m : DM) (file tn : Int) : Prop := ∃ ds, RDis w ds m ∧ cs = ds ++ #[.int .i64 file, .int .i64 tn]
theorem RLog.bel {w w' : World} {cs : Array Value} {m : DM} {file tn : Int} (h : RLog w cs m file tn) (hb : Bel w w') : RLog w' cs m file tn := by
  obtain ⟨ds, h1, h2⟩ := h
  exact ⟨ds, h1.bel hb, h2⟩
theorem RDis.size {w : World} {cs : Array Value} {m : DM} (h : RDis w cs m) : cs.size = 66 := by
  obtain ⟨A, cap, hc, hr⟩ := h
  exact hc.size
/-- The parts of such a block. -/
structure LaidL (w : World) (b : Nat) (ds : Array Value) (file tn : Int) : Prop where
  disk : w.rangeAt b 0 ds.toList
  file : w.cell? ⟨b, 66, none⟩ = some (.int .i64 file)
  torn : w.cell? ⟨b, 67, none⟩ = some (.int .i64 tn)
theorem LaidL.of {w : World} {b : Nat} {ds : Array Value} {T : TypeId} {file tn : Int} (hs : ds.size = 66) (h : w.heap[b]? = some (.cells (ds ++ #[.int .i64 file, .int .i64 tn]) T (0, 0))) : LaidL w b ds file tn := by
  refine ⟨fun j v hv => ?_, ?_, ?_⟩
  · rw [Nat.zero_add, Blk.cell h j]
    rw [Array.getElem?_toList] at hv
    have := (Array.getElem?_eq_some_iff.1 hv).1
    rw [Array.getElem?_append_left (by omega)]
    exact hv
  · rw [Blk.cell h 66, Array.getElem?_append_right (by omega), hs]
    rfl
  · rw [Blk.cell h 67, Array.getElem?_append_right (by omega), hs]
    rfl
theorem LaidL.bel {w w' : World} {b : Nat} {ds : Array Value} {file tn : Int} (h : LaidL w b ds file tn) (hb : Bel w w') : LaidL w' b ds file tn := ⟨fun j v hv => hb.c (h.disk j v hv), hb.c h.file, hb.c h.torn⟩
set_option maxRecDepth 100000 in
theorem r10End_any {w : World} {cs : Array Value} {m : DM} {file tn : Int} (h : RLog w cs m file tn) (hfit : RFit m) (h0 : 0 ≤ file) (h64 : file < 64) : Calls Tryz.prog 32 #[.agg cs] w fun e w' => e = .returned (.int .i64 (m.files file).length) ∧ Bel w w' := by
  obtain ⟨ds, hd, rfl⟩ := h
  obtain ⟨W, hW⟩ : ∃ W, W = w.alloc (.cells (ds ++ #[.int .i64 file, .int .i64 tn]) 38) := ⟨_, rfl⟩
  have hbW : Bel w W := by rw [hW]; exact (Bel.refl w).alloc _
  have hL : LaidL W w.heap.size ds file tn := LaidL.of hd.size (by rw [hW]; exact World.alloc_heap_new _ _)
  obtain ⟨f, rfl⟩ : ∃ f : Nat, file = f := ⟨file.toNat, by omega⟩
  have HF := Lib.hid (rdFile_any (hd.bel hbW) hfit f (by omega))
  have HI := Lib.hid hd.info
  have HL := Lib.hid hL
  have c66 := hL.file
  have HBW := Lib.hid hbW
  clear hd hfit hL hbW
  subst hW
  go_enter Tryz.func32, Tryz.ntmps32
  go_wp2_with (first
               | (refine wpList_load_arr rfl 36 _ rfl w.heap.size 0 rfl ds _ HL.out.disk Tryz.underlying36 rfl HI.out ?_)
               | (go_at_call 23; refine HF.out.mono ?_; rintro e w2 ⟨rfl, hb2⟩; have HB2 := Lib.hid (HBW.out.then_ hb2); clear hb2))
  go_ret
  exact ⟨rfl, HB2.out⟩
theorem rowsFrom_snd' : ∀ (xs : List (List UInt8)) (a : Nat), (rowsFrom a xs).map (·.2) = xs
  | [], _ => rfl
  | x :: xs, a => by rw [rowsFrom, List.map_cons, rowsFrom_snd' xs]
/-- A row's two cells. -/
def rrow (q : Nat × List UInt8) : List Value := [.int .i64 q.1, .string ⟨q.2.toArray⟩]
def rrows (l : List (Nat × List UInt8)) : List Value := l.flatMap rrow
theorem rrows_length (l : List (Nat × List UInt8)) : (rrows l).length = l.length * 2 := by
  induction l with
  | nil => rfl
  | cons y l ih => show (rrow y ++ rrows l).length = _; rw [List.length_append, ih]; simp [rrow]; omega
theorem rrows_append (l k : List (Nat × List UInt8)) : rrows (l ++ k) = rrows l ++ rrows k := by simp [rrows]
theorem rrows_at : ∀ (l : List (Nat × List UInt8)) (k j : Nat) (x : Nat × List UInt8), l[k]? = some x → j < 2 → (rrows l)[k * 2 + j]? = (rrow x)[j]?
  | [], k, j, x, h, _ => by simp at h
  | y :: l, 0, j, x, h, hj => by
    simp at h
    subst h
    show (rrow y ++ rrows l)[0 * 2 + j]? = _
    rw [List.getElem?_append_left (by simp [rrow]; omega)]
    simp
  | y :: l, k + 1, j, x, h, hj => by
    show (rrow y ++ rrows l)[(k + 1) * 2 + j]? = _
    have e : (rrow y).length = 2 := rfl
    rw [List.getElem?_append_right (by omega), e, show (k + 1) * 2 + j - 2 = k * 2 + j by omega]
    exact rrows_at l k j x (by simpa using h) hj
/-- Rows, as a slice reads. -/
def RRows (w : World) (v : Value) (l : List (Nat × List UInt8)) : Prop := ∃ A c, v = .slice A l.length c ∧ l.length ≤ c ∧ (0 < l.length → ∃ g off, A = some ⟨g, off, none⟩ ∧ g < w.heap.size ∧ ∀ j u, (rrows l)[j]? = some u → w.cell? ⟨g, off + j, none⟩ = some u)
theorem RRows.bel {w w' : World} {v : Value} {l : List (Nat × List UInt8)} (h : RRows w v l) (hb : Bel w w') : RRows w' v l := by
  obtain ⟨A, c, e, hl, h⟩ := h
  refine ⟨A, c, e, hl, fun hn => ?_⟩
  obtain ⟨g, off, e, hg, hc⟩ := h hn
  exact ⟨g, off, e, Nat.lt_of_lt_of_le hg hb.size, fun j u hu => hb.c (hc j u hu)⟩
theorem RRows.at_ {w : World} {A : Option Addr} {n c : Nat} {l : List (Nat × List UInt8)} (h : RRows w (.slice A n c) l) {k : Nat} {x : Nat × List UInt8} (hx : l[k]? = some x) : ∃ g off, A = some ⟨g, off, none⟩ ∧ w.cell? ⟨g, off + k * 2, none⟩ = some (.int .i64 x.1) ∧ w.cell? ⟨g, off + k * 2 + 1, none⟩ = some (.string ⟨x.2.toArray⟩) := by
  have hlt := (List.getElem?_eq_some_iff.1 hx).1
  obtain ⟨A', c', e, hl, h⟩ := h
  simp only [Value.slice.injEq] at e
  obtain ⟨rfl, rfl, rfl⟩ := e
  obtain ⟨g, off, e, hg, hc⟩ := h (by omega)
  exact ⟨g, off, e, hc (k * 2) _ ((rrows_at l k 0 x hx (by omega)).trans rfl), hc (k * 2 + 1) _ ((rrows_at l k 1 x hx (by omega)).trans rfl)⟩
theorem RRows.of_own {w : World} {b n : Nat} {v : Value} {l : List (Nat × List UInt8)} (h : w.ownsRow b 81 2 v n (rrows l)) (hn : n = l.length) : RRows w v l := by
  subst hn
  rcases h.2 with ⟨rfl, hl⟩ | ⟨g, cap, cur, rfl, hbg, hg, h2, h3, h4, h5⟩
  · exact ⟨none, 0, by rw [hl], by omega, fun h0 => by omega⟩
  · refine ⟨_, cap, rfl, h2, fun h0 => ⟨g, 0, rfl, (Array.getElem?_eq_some_iff.1 hg).1, fun j u hu => ?_⟩⟩
    have := h.cells (g := g) rfl j u hu
    rw [add_free] at this
    exact this
theorem infoRR : (Tryz.prog.info? 81).map (fun i => (i.zero, i.size, i.bytes)) = some (some (.agg #[.int .i64 0, .string ⟨#[]⟩]), 2, 24) := by kernel_rfl
theorem reads2 (w : World) (T : TypeId) (c0 c1 : Value) : Reads (w.alloc (.cells #[c0, c1] T)) (w.heap.size + 1) 2 (some ⟨w.heap.size, 0, none⟩) 1 [c0, c1] := by
  refine ⟨rfl, fun _ => ⟨_, rfl, by simp, fun j u hu => ?_⟩⟩
  have hb := World.alloc_heap_new w (.cells #[c0, c1] T)
  rw [add_free, Nat.zero_add]
  simp only [World.cell?, hb]
  simpa using hu
set_option maxRecDepth 100000 in
set_option maxHeartbeats 1000000 in
theorem r10All_any {w : World} {cs : Array Value} {m : DM} {file tn : Int} (h : RLog w cs m file tn) (hfit : RFit m) (h0 : 0 ≤ file) (h64 : file < 64)
    (xs : List (List UInt8)) (t : List UInt8) (hx : ∀ x ∈ xs, x.length ≤ 60000) (ht : firstL t = none) (hs : m.files file = recsN xs ++ t) :
    Calls Tryz.prog 55 #[.agg cs] w fun e w' => ∃ v, e = .returned v ∧ RRows w' v (rowsFrom 0 xs) ∧ Bel w w' := by
  have hsz : (⟨(m.files file).toArray⟩ : ByteArray).size = (m.files file).length := rfl
  have hlen : (m.files file).length ≤ 16777216 := by rw [hfit.files]; exact hfit.len _ _ h0 h64
  have hxl : (recsN xs).length ≤ (m.files file).length := by rw [hs, List.length_append]; omega
  obtain ⟨ds, hd, rfl⟩ := h
  obtain ⟨W, hW⟩ : ∃ W, W = w.alloc (.cells (ds ++ #[.int .i64 file, .int .i64 tn]) 38) := ⟨_, rfl⟩
  have hbW : Bel w W := by rw [hW]; exact (Bel.refl w).alloc _
  have hL : LaidL W w.heap.size ds file tn := LaidL.of hd.size (by rw [hW]; exact World.alloc_heap_new _ _)
  obtain ⟨f, rfl⟩ : ∃ f : Nat, file = f := ⟨file.toNat, by omega⟩
  have HF := Lib.hid (rdFile_any (hd.bel hbW) hfit f (by omega))
  have HI := Lib.hid hd.info
  have HL := Lib.hid hL
  have c66 := hL.file
  have HBW := Lib.hid hbW
  have HX := Lib.hid hx
  have HT := Lib.hid ht
  have HS := Lib.hid hs
  clear hd hfit hL hbW hx ht hs
  subst hW
  generalize m.files f = s at *
  have hlI : (s.length : Int) ≤ 16777216 := by omega
  go_enter Tryz.func55, Tryz.ntmps55
  go_wp2_with (first
               | (refine wpList_load_arr rfl 36 _ rfl w.heap.size 0 rfl ds _ HL.out.disk Tryz.underlying36 rfl HI.out ?_)
               | (go_at_call 23; refine HF.out.mono ?_; rintro e w2 ⟨rfl, hb2⟩; have HB2 := Lib.hid (HBW.out.then_ hb2); clear hb2))
  have HB2' := HB2
  go_loopw [4, 5] (fun v i wr => ∃ k : Nat, k ≤ xs.length ∧ i = .int .i64 (recsN (xs.take k)).length ∧ (∃ A c, v = .slice A k c) ∧ Hid (Bel w wr ∧ wr.ownsRow w.heap.size 81 2 v k (rrows (rowsFrom 0 (xs.take k))))) (fun _ i _ => s.length + 1 - (intOf i).toNat)
  case atStart => exact ⟨0, Nat.zero_le _, rfl, ⟨none, 0, rfl⟩, HB2'.out, World.ownsRow_nil _ _ _ _⟩
  case round =>
    obtain ⟨k, hk, rfl, ⟨A, c, rfl⟩, HR⟩ := hrel
    have hle := recs_len xs k
    have hdr : (⟨s.toArray⟩ : ByteArray).extract (recsN (xs.take k)).length s.length = ⟨(s.drop (recsN (xs.take k)).length).toArray⟩ := drop_bytes _ _
    have hdl : (s.drop (recsN (xs.take k)).length).length ≤ 1000000000 := by rw [List.length_drop]; omega
    have hatI : ((recsN (xs.take k)).length : Int) ≤ s.length := by omega
    have hRL : (rowsFrom 0 xs).length = xs.length := by have := congrArg List.length (rowsFrom_snd' xs 0); simpa using this
    by_cases hend : (recsN (xs.take k)).length = s.length
    · have hkx : k = xs.length := by
        rcases Nat.lt_or_ge k xs.length with h | h
        · obtain ⟨x, hxk⟩ : ∃ x, xs[k]? = some x := ⟨_, List.getElem?_eq_getElem h⟩
          have h1 := recs_take hxk
          have h2 := recs_len xs (k + 1)
          omega
        · omega
      subst hkx
      have hRO : RRows wr (.slice A xs.length c) (rowsFrom 0 xs) := by
        have := HR.out.2
        rw [List.take_length] at this
        exact RRows.of_own this hRL.symm
      have HRO := Lib.hid hRO
      have hcond : ((recsN (xs.take xs.length)).length : Int) = s.length := by omega
      clear hRO hdr hdl hle
      generalize (recsN (xs.take xs.length)).length = at_ at *
      have hnl : ¬ at_ < s.length := by omega
      have hdec := decide_eq_false hnl
      clear hend hcond
      go_wp2
      go_ret
      exact ⟨_, rfl, HRO.out, HR.out.1⟩
    have hltI : ((recsN (xs.take k)).length : Int) < s.length := by omega
    have HF := Lib.hid (r10first_any (s.drop (recsN (xs.take k)).length) hdl wr)
    by_cases hlt : k < xs.length
    · obtain ⟨x, hxk⟩ : ∃ x, xs[k]? = some x := ⟨_, List.getElem?_eq_getElem hlt⟩
      have hfi : firstL (s.drop (recsN (xs.take k)).length) = some x := by rw [HS.out, drop_recs, recs_at hxk]; exact firstL_rec x _ (HX.out x (List.mem_of_getElem? hxk))
      rw [hfi] at HF
      have HNX := Lib.hid (recs_take hxk)
      have HRS := Lib.hid (rows_succ hxk)
      have hx6 : (x.length : Int) ≤ 60000 := by have := HX.out x (List.mem_of_getElem? hxk); omega
      have HLE2 := Lib.hid (recs_len xs (k + 1))
      have hsx : (⟨x.toArray⟩ : ByteArray).size = x.length := rfl
      have hk8 : k ≤ 16777216 := by
        have : ∀ l : List (List UInt8), l.length ≤ (recsN l).length := fun l => by
          induction l with
          | nil => simp [recsN]
          | cons y l ih => show _ ≤ (recN y ++ recsN l).length; rw [List.length_append, recN_length, List.length_cons]; omega
        have := this xs
        omega
      obtain ⟨i0, hi0, hz0, hz1, hz2⟩ := info_parts infoRR
      have hp2 : (0 : Nat) < 2 := by omega
      have h63 : k + 1 ≤ maxLen := by unfold maxLen; omega
      have hby : (k + 1) * 24 ≤ 140737488355328 := by omega
      clear hfi hxk hdl hle hend
      generalize (recsN (xs.take k)).length = at_ at *
      generalize rowsFrom 0 (xs.take k) = R at *
      have hon : ∀ u ∈ rrow (at_, x), u.oneCell' = true := fun u hu => by
        simp [rrow] at hu
        rcases hu with rfl | rfl <;> rfl
      go_wp2_with fail
      refine HF.out.mono ?_
      rintro e w1 ⟨hb, rfl⟩
      have HB1 := Lib.hid (HR.out.1.then_ hb)
      have hal : Bel w1 (w1.alloc (.cells #[.int .i64 at_, .string ⟨x.toArray⟩] 81)) := (Bel.refl w1).alloc _
      have HOW := Lib.hid (ownsRow_bel HR.out.2 (hb.then_ hal))
      have HAL := Lib.hid (HB1.out.then_ hal)
      have HX1 : Hid (Reads (w1.alloc (.cells #[.int .i64 at_, .string ⟨x.toArray⟩] 81)) (w1.heap.size + 1) 2 (some ⟨w1.heap.size, 0, none⟩) 1 (rrow (at_, x))) := reads2 w1 _ _ _
      have HS1 : Hid (w.heap.size ≤ (w1.alloc (.cells #[.int .i64 at_, .string ⟨x.toArray⟩] 81)).heap.size) := (HB1.out.then_ hal).size
      clear hb HF hal
      go_wp2_with (first
                   | (at_builtin; refine wpList_append_any _ rfl _ _ _ rfl w.heap.size 81 i0 _ 2 24 Tryz.underlying75 hi0 hz0 hz1 hz2 rfl hp2 _ k (rrows R) rfl HOW.out _ (some ⟨w1.heap.size, 0, none⟩) 1 1 (rrow (at_, x)) rfl HX1.out hon h63 hby HS1.out ?_
                      intro v9 w9 hown9 hg9 hat9
                      obtain ⟨A9, c9, rfl⟩ := row_any hown9
                      have hb9 : Bel w w9 := Below.grown HAL.out hg9 HS1.out (fun j e => (HOW.out.lt j e).1)
                      have HN : Hid (Bel w w9 ∧ w9.ownsRow w.heap.size 81 2 (.slice A9 (k + 1) c9) (k + 1) (rrows (R ++ [(at_, x)]))) := ⟨hb9, by rw [rrows_append]; simpa [rrows] using hown9⟩
                      clear hown9 hg9 hat9 hb9))
      go_roundw
      case rel => exact ⟨k + 1, by omega, by rw [HNX.out]; first | go_num | (congr 1; omega), ⟨A9, c9, rfl⟩, HN.out.1, by rw [HRS.out]; exact HN.out.2⟩
      case measure => have h1 := HNX.out; have h2 := HLE2.out; rw [h1] at h2; simp [intOf]; omega
    · obtain rfl : k = xs.length := by omega
      have hfi : firstL (s.drop (recsN (xs.take xs.length)).length) = none := by rw [HS.out, drop_recs, List.drop_length]; exact HT.out
      rw [hfi] at HF
      have hRO : RRows wr (.slice A xs.length c) (rowsFrom 0 xs) := by
        have := HR.out.2
        rw [List.take_length] at this
        exact RRows.of_own this hRL.symm
      have HRO := Lib.hid hRO
      clear hfi hdl hle hRO hend
      generalize (recsN (xs.take xs.length)).length = at_ at *
      go_wp2_with fail
      refine HF.out.mono ?_
      rintro e w1 ⟨hb, o, rfl⟩
      have HB1 := Lib.hid hb
      clear hb HF
      go_wp2
      go_ret
      exact ⟨_, rfl, HRO.out.bel HB1.out, HR.out.1.then_ HB1.out⟩
end Go.Proofs.YtiajggmnfaidjaaGreatDoor
