/-
  The log: its bytes; going over all records.
-/
import Derived.Test.YtiajggmnfaidjaaGreatDoorLo
import Derived.Test.YtiajggmnfaidjaaGreatDoorSeqr
set_option linter.unusedVariables false
set_option linter.unusedSimpArgs false
set_option linter.unusedVariables false
set_option linter.unusedSimpArgs false
namespace Go.Proofs.YtiajggmnfaidjaaGreatDoor
open Go.RowKit Go.Shelf
attribute [local go_sem] Oper.semAt_some

theorem LogIs.below {w w' : World} {bl bd n₀ : Nat} {m : DM} {file en tn : Int} {fd : Nat → Prop} (h : LogIs w bl bd m file en tn fd) (hb : Below n₀ w w') (hbl : bl < n₀) (hfd : ∀ b, fd b → b < n₀) : LogIs w' bl bd m file en tn fd :=
  ⟨(hb.block bl hbl).trans h.blk, h.nfd, fun b hf => Nat.lt_of_lt_of_le (h.tight b hf) hb.size, h.disk.kept fun b hf _ => hb.block b (hfd b hf)⟩
set_option maxRecDepth 100000 in
set_option maxHeartbeats 1000000 in
theorem lbytes_any {w : World} {bl bd : Nat} {m : DM} {file en tn : Int} {fd : Nat → Prop} (h : LogIs w bl bd m file en tn fd) (hfit : Fit m) (h0 : 0 ≤ file) (h64 : file < 64) :
    Calls Tryz.prog 60 #[.pointer (some ⟨bl, 0, none⟩)] w fun e w' => ∃ v, e = .returned v ∧ BytesAt w' v (m.files file) (fun b => w.heap.size ≤ b) ∧ Bel w w' := by
  have HN := Lib.hid (lnone_any h)
  obtain ⟨k0, k1, k2, k3, kf⟩ := h.cells
  have hbd : Bel w w.drew := (Bel.refl w).drew
  have HR := Lib.hid (read_any (h.bel hbd).disk hfit file h0 h64)
  have hS0 : (fun V : World => V.cell? ⟨bl, 0, none⟩ = some (.pointer (some ⟨bd, 0, none⟩)) ∧ V.cell? ⟨bl, 1, none⟩ = some (.int .i64 file)) w.drew := ⟨k0, k1⟩
  clear h hfit k2 k3 kf
  go_enter Tryz.func60, Tryz.ntmps60
  go_wp2_with (go_at_call 38; refine HN.out.mono ?_; rintro e w' ⟨rfl, rfl⟩)
  go_region_held3 (fun V : World => V.cell? ⟨bl, 0, none⟩ = some (.pointer (some ⟨bd, 0, none⟩)) ∧ V.cell? ⟨bl, 1, none⟩ = some (.int .i64 file))
    (first | assumption | exact hS0 | exact keepL (by assumption) (by assumption))
    ((go_at_call 20; refine HR.out.mono ?_; rintro e w2 ⟨v, rfl, hv, hb⟩))
  have HV := Lib.hid hv
  have HB := Lib.hid (hbd.then_ hb)
  clear hv hb hS0 hbd
  go_wp2
  go_ret
  exact ⟨v, rfl, HV.out, HB.out⟩
/-- The records with their positions. -/
def rowsFrom (a : Nat) : List (List UInt8) → List (Nat × List UInt8)
  | [] => []
  | x :: xs => (a, x) :: rowsFrom (a + (x.length + 8)) xs
theorem rowsFrom_append (xs ys : List (List UInt8)) : ∀ a, rowsFrom a (xs ++ ys) = rowsFrom a xs ++ rowsFrom (a + (recsN xs).length) ys := by
  induction xs with
  | nil => intro a; simp [rowsFrom, recsN]
  | cons x xs ih =>
    intro a
    have e : (recsN (x :: xs)).length = (x.length + 8) + (recsN xs).length := by
      show ((x :: xs).flatMap recN).length = _
      rw [List.flatMap_cons, List.length_append, recN_length]
      rfl
    rw [List.cons_append, rowsFrom, rowsFrom, ih, e, List.cons_append, Nat.add_assoc]
theorem rows_split {xs : List (List UInt8)} {x : List UInt8} {k : Nat} (h : xs[k]? = some x) : ∃ rest, rowsFrom 0 xs = rowsFrom 0 (xs.take k) ++ ((recsN (xs.take k)).length, x) :: rest := by
  have hk := List.getElem?_eq_some_iff.1 h
  have e : xs = xs.take k ++ x :: xs.drop (k + 1) := by
    have := List.take_append_drop k xs
    rw [List.drop_eq_getElem_cons hk.1, hk.2] at this
    exact this.symm
  refine ⟨rowsFrom ((recsN (xs.take k)).length + (x.length + 8)) (xs.drop (k + 1)), ?_⟩
  conv => lhs; rw [e]
  rw [rowsFrom_append, Nat.zero_add]
  rfl
theorem rows_succ {xs : List (List UInt8)} {x : List UInt8} {k : Nat} (h : xs[k]? = some x) : rowsFrom 0 (xs.take (k + 1)) = rowsFrom 0 (xs.take k) ++ [((recsN (xs.take k)).length, x)] := by
  rw [List.take_add_one, h]
  show rowsFrom 0 (xs.take k ++ [x]) = _
  rw [rowsFrom_append, Nat.zero_add]
  rfl
/-- What a round is handed: a position, and new bytes. -/
def ELog (n₀ : Nat) (p : (Nat × List UInt8) × Array Value) (W : World) : Prop :=
  ∃ A, p.2 = #[.int .i64 p.1.1, .slice A p.1.2.length p.1.2.length] ∧ BytesAt W (.slice A p.1.2.length p.1.2.length) p.1.2 (fun b => n₀ ≤ b)
set_option maxRecDepth 100000 in
set_option maxHeartbeats 4000000 in
theorem all_seq (n : Nat) (hn : 6 ≤ n) {w : World} {bl bd n₀ : Nat} {m : DM} {file en tn : Int} {fd : Nat → Prop} (h : LogIs w bl bd m file en tn fd) (hfit : Fit m) (h0 : 0 ≤ file) (h64 : file < 64) (hbl : bl < n₀) (hfd : ∀ b, fd b → b < n₀) (hn0 : n₀ ≤ w.heap.size)
    (xs : List (List UInt8)) (t : List UInt8) (hx : ∀ x ∈ xs, x.length ≤ 60000) (ht : firstL t = none) (hs : m.files file = recsN xs ++ t) :
    SeqR Fence.wide n Tryz.prog 39 #[.pointer (some ⟨bl, 0, none⟩)] #[] (ELog n₀) n₀ (rowsFrom 0 xs) w := fun l' J Jx W hW hJ hY hJ0 => by
  have hlen : (m.files file).length ≤ 16777216 := by have := len_le_tot m.files file h0 h64; have := hfit.files; have := hfit.hi; omega
  have HBY := Lib.hid (lbytes_any (h.below hW hbl hfd) hfit h0 h64)
  have HJ := Lib.hid hJ
  have HY := Lib.hid hY
  have HJ0 := Lib.hid hJ0
  have hle : (recsN xs).length ≤ (m.files file).length := by rw [hs]; simp
  have HS := Lib.hid hs
  have HT := Lib.hid ht
  have HX := Lib.hid hx
  have HLE := Lib.hid hle
  have HLEN := Lib.hid hlen
  have hWs : n₀ ≤ W.heap.size := Nat.le_trans hn0 hW.size
  clear h hfit hJ hY hJ0 hs ht hx hle hlen
  generalize m.files file = s at *
  refine callsIn_of_wp Tryz.func39 rfl trivial ?_ rfl
  simp only [Tryz.ntmps39, List.size_toArray, List.length_cons, List.length_nil, Nat.reduceAdd, Nat.reduceSub, Array.replicate_succ, Array.replicate_zero, List.push_toArray, List.append_toArray, List.nil_append, List.cons_append]
  gi_wp2_with fail
  refine ⟨trivial, fun _ => by omega, (callsIn_wide.2 HBY.out).mono ?_⟩
  rintro e1 w1 ⟨v, rfl, hv, hb1⟩
  obtain ⟨A, cap, rfl, hv'⟩ := id hv
  have HV := Lib.hid hv
  have HB1 := Lib.hid hb1
  have HJ1 : Hid (J [] w1) := HJ.out _ _ _ HJ0.out hb1
  clear hv hv' hb1
  gi_wp2
  gi_loopw [5] (fun i wr => ∃ k : Nat, k ≤ xs.length ∧ i = .int .i64 (recsN (xs.take k)).length ∧ Hid (J (rowsFrom 0 (xs.take k)) wr ∧ Own n₀ W.heap.size w1 wr)) (fun i _ => s.length + 1 - (intOf i).toNat)
  case atStart => exact ⟨0, Nat.zero_le _, rfl, HJ1.out, Own.refl _ _ _⟩
  case round =>
    obtain ⟨k, hk, rfl, HR⟩ := hrel
    have hat : (recsN (xs.take k)).length ≤ s.length := Nat.le_trans (recs_len xs k) HLE.out
    have hvr : BytesAt wr (.slice A s.length cap) s (fun b => W.heap.size ≤ b) := HV.out.kept (fun b hb hl => HR.out.2.keep b hb hl) (fun _ h _ => h)
    have hfrom := hvr.from_ (recsN (xs.take k)).length hat
    have hdr : s.drop (recsN (xs.take k)).length = recsN (xs.drop k) ++ t := by rw [HS.out]; exact drop_recs xs t k
    rw [hdr] at hfrom
    have hln : s.length - (recsN (xs.take k)).length = (recsN (xs.drop k) ++ t).length := by rw [← hdr, List.length_drop]
    have hsl := fun w => slice_from A s.length cap (recsN (xs.take k)).length (recsN (xs.take k)).length rfl hat w
    rw [hln] at hsl hfrom
    generalize (if cap = (recsN (xs.take k)).length then A else A.map (·.add (recsN (xs.take k)).length)) = A2 at *
    have HF := Lib.hid (first_any _ A2 _ (fun b => W.heap.size ≤ b) (by have := HLEN.out; omega) wr hfrom)
    have hI : ((recsN (xs.take k)).length : Int) ≤ s.length := by omega
    have hsI : (s.length : Int) ≤ 16777216 := by have := HLEN.out; omega
    have hszr : W.heap.size ≤ wr.heap.size := Nat.le_trans HB1.out.size HR.out.2.below.size
    clear hfrom hvr
    by_cases hlt : k < xs.length
    · obtain ⟨x, hxk⟩ : ∃ x, xs[k]? = some x := ⟨_, List.getElem?_eq_getElem hlt⟩
      have hxl : x.length ≤ 60000 := HX.out x (List.mem_of_getElem? hxk)
      have hfx : firstL (recsN (xs.drop k) ++ t) = some x := by rw [recs_at hxk t]; exact firstL_rec _ _ hxl
      have hnx := recs_take hxk
      have hle2 := Nat.le_trans (recs_len xs (k + 1)) HLE.out
      obtain ⟨rest, hsplit⟩ := rows_split hxk
      have hrs := rows_succ hxk
      rw [hfx] at HF
      have HNX := Lib.hid hnx
      have HLE2 := Lib.hid hle2
      have HSPLIT := Lib.hid hsplit
      have HRS := Lib.hid hrs
      have hxI : (x.length : Int) ≤ 60000 := by omega
      have hlt2 : (recsN (xs.take k)).length < s.length := by omega
      have hlt3 : ((recsN (xs.take k)).length : Int) < s.length := by omega
      clear hfx hdr hln hxk hnx hle2 hsplit hrs
      generalize (recsN (xs.take k)).length = at_ at *
      generalize (recsN (xs.drop k) ++ t) = d at *
      gi_wp2_with fail
      refine ⟨trivial, fun _ => by omega, (callsIn_wide.2 HF.out).mono ?_⟩
      rintro e2 w2 ⟨hb2, A3, rfl, hb3⟩
      obtain ⟨fn, tmps, assign, body, hy, hRR⟩ := HY.out (rowsFrom 0 (xs.take k)) (at_, x) #[.int .i64 at_, .slice A3 x.length x.length] rest w2 HSPLIT.out (HJ.out _ _ _ HR.out.1 hb2) ⟨A3, rfl, hb3.mono (fun b hb _ => Nat.le_trans hWs hb)⟩
      have HB2 := Lib.hid hb2
      clear hb2 hb3
      gi_wp2
      refine ⟨fun _ => by omega, hRR.mono ?_⟩
      rintro e W3 (⟨rfl, hJ3, hk3⟩ | ⟨rfl, hJx3⟩)
      · gi_wp2
        go_roundw
        case rel => exact ⟨k + 1, by omega, by rw [HNX.out]; go_num, by rw [HRS.out]; exact hJ3, (HR.out.2.trans (Own.of_bel (Nat.le_trans hWs hszr) HB2.out)).trans hk3⟩
        case measure => have h1 := HNX.out; have h2 := HLE2.out; rw [h1] at h2; simp [intOf]; omega
      · gi_wp2
        first
        | (refine bodyPost_ret (results_none rfl _ _ _) rfl ?_; exact ⟨⟨_, rfl⟩, .inr ⟨_, _, rest, HSPLIT.out, hJx3⟩⟩)
        | (go_end0; exact ⟨⟨_, rfl⟩, .inr ⟨_, _, rest, HSPLIT.out, hJx3⟩⟩)
    · obtain rfl : k = xs.length := by omega
      have hfx : firstL (recsN (xs.drop xs.length) ++ t) = none := by rw [List.drop_length]; simpa [recsN] using HT.out
      have hrs : rowsFrom 0 (xs.take xs.length) = rowsFrom 0 xs := by rw [List.take_length]
      rw [hfx] at HF
      rw [hrs] at HR
      clear hfx hdr hln hrs
      generalize (recsN (xs.take xs.length)).length = at_ at *
      generalize (recsN (xs.drop xs.length) ++ t) = d at *
      by_cases hend : at_ < s.length
      · have hendI : (at_ : Int) < s.length := by omega
        gi_wp2_with fail
        refine ⟨trivial, fun _ => by omega, (callsIn_wide.2 HF.out).mono ?_⟩
        rintro e2 w2 ⟨hb2, v, rfl⟩
        have HJ2 : Hid (J (rowsFrom 0 xs) w2) := HJ.out _ _ _ HR.out.1 hb2
        clear hb2
        gi_wp2
        refine ⟨(fun f hf => by cases hf), ?_⟩
        gi_wp2
        first
        | (refine bodyPost_ret (results_none rfl _ _ _) rfl ?_; exact ⟨⟨_, rfl⟩, .inl HJ2.out⟩)
        | (go_end0; exact ⟨⟨_, rfl⟩, .inl HJ2.out⟩)
      · have hendI : ¬ (at_ : Int) < s.length := by omega
        gi_wp2
        first
        | (go_end0; exact ⟨⟨_, rfl⟩, .inl HR.out.1⟩)
        | (refine bodyPost_ret (results_none rfl _ _ _) rfl ?_; exact ⟨⟨_, rfl⟩, .inl HR.out.1⟩)
end Go.Proofs.YtiajggmnfaidjaaGreatDoor
