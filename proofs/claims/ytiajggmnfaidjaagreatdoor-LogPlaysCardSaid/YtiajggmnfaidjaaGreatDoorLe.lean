/-
  The log: Each.
-/
import Derived.Test.YtiajggmnfaidjaaGreatDoorLr
set_option linter.unusedVariables false
set_option linter.unusedSimpArgs false
set_option linter.unusedVariables false
set_option linter.unusedSimpArgs false
namespace Go.Proofs.YtiajggmnfaidjaaGreatDoor
open Go.RowKit Go.Shelf
attribute [local go_sem] Oper.semAt_some

theorem each_any (p : Value) (from_ : Int) (hp : ∃ a, p = .pointer a) (w : World) : Calls Tryz.prog 31 #[p, .int .i64 from_] w fun e w' => e = .returned (.func (.func 56) #[] #[.pointer (some ⟨w.heap.size, 0, none⟩), .pointer (some ⟨w.heap.size + 1, 0, none⟩)]) ∧ (w.alloc (.cells #[p] 29)).alloc (.cells #[.int .i64 from_] 3) = w' := by
  obtain ⟨a, rfl⟩ := hp
  go_enter Tryz.func31, Tryz.ntmps31
  go_wp2
  go_ret
  exact ⟨rfl, rfl⟩
set_option maxRecDepth 100000 in
set_option maxHeartbeats 4000000 in
theorem each_seq (n : Nat) (hn : 6 ≤ n) {w : World} {bl bd n₀ B1 B2 : Nat} {m : DM} {file en tn : Int} {fd : Nat → Prop} (h : LogIs w bl bd m file en tn fd) (hfit : Fit m) (h0 : 0 ≤ file) (h64 : file < 64) (hbl : bl < n₀) (hfd : ∀ b, fd b → b < n₀) (hB1 : B1 < n₀) (hB2 : B2 < n₀) (hn0 : n₀ ≤ w.heap.size)
    (c1 : w.cell? ⟨B1, 0, none⟩ = some (.pointer (some ⟨bl, 0, none⟩))) (c2 : w.cell? ⟨B2, 0, none⟩ = some (.int .i64 0))
    (xs : List (List UInt8)) (t : List UInt8) (hx : ∀ x ∈ xs, x.length ≤ 60000) (ht : firstL t = none) (hs : m.files file = recsN xs ++ t) :
    SeqR Fence.wide n Tryz.prog 56 #[] #[.pointer (some ⟨B1, 0, none⟩), .pointer (some ⟨B2, 0, none⟩)] (ELog n₀) n₀ (rowsFrom 0 xs) w := fun l' J Jx W hW hJ hY hJ0 => by
  have hfl : (recsN xs).length ≤ 16777216 := by
    have h1 := len_le_tot m.files file h0 h64
    have h2 := hfit.files
    have h3 := hfit.hi
    have h4 := congrArg List.length hs
    rw [List.length_append] at h4
    omega
  have d1 := (hW.cell (p := ⟨B1, 0, none⟩) hB1).trans c1
  have d2 := (hW.cell (p := ⟨B2, 0, none⟩) hB2).trans c2
  have HLOG := Lib.hid (h.below hW hbl hfd)
  have HRD := Lib.hid (fun (V : World) (hV : Below n₀ W V) (a : Int) (r : Option (Nat × List UInt8)) hr => lRead_any ((h.below hW hbl hfd).below hV hbl hfd) hfit h0 h64 xs t hx ht hs a r hr)
  have HJ := Lib.hid hJ
  have HY := Lib.hid hY
  have HJ0 := Lib.hid hJ0
  have hWs : n₀ ≤ W.heap.size := Nat.le_trans hn0 hW.size
  have HFL := Lib.hid hfl
  clear h hfit hJ hY hJ0 hs ht hx hfl c1 c2
  refine callsIn_of_wp Tryz.func56 rfl trivial ?_ rfl
  simp only [Tryz.ntmps56, List.size_toArray, List.length_cons, List.length_nil, Nat.reduceAdd, Nat.reduceSub, Array.replicate_succ, Array.replicate_zero, List.push_toArray, List.append_toArray, List.nil_append, List.cons_append]
  gi_wp2
  refine wpIn_scope_wide ?_
  gi_wp2
  refine wpIn_label ?_
  gi_wp2
  gi_loopw [5] (fun i wr => ∃ k : Nat, k ≤ xs.length ∧ i = .int .i64 (recsN (xs.take k)).length ∧ Hid (J (rowsFrom 0 (xs.take k)) wr ∧ Own n₀ W.heap.size W wr)) (fun i _ => (recsN xs).length + 1 - (intOf i).toNat)
  case atStart => exact ⟨0, Nat.zero_le _, rfl, HJ0.out, Own.refl _ _ _⟩
  case round =>
    obtain ⟨k, hk, rfl, HR⟩ := hrel
    by_cases hlt : k < xs.length
    · obtain ⟨x, hxk⟩ : ∃ x, xs[k]? = some x := ⟨_, List.getElem?_eq_getElem hlt⟩
      have hnx := recs_take hxk
      have hle2 := recs_len xs (k + 1)
      obtain ⟨rest, hsplit⟩ := rows_split hxk
      have hrs := rows_succ hxk
      have HF := Lib.hid (HRD.out wr HR.out.2.below ((recsN (xs.take k)).length) (some ((recsN (xs.take k)).length, x)) ⟨by rw [hsplit]; simp, rfl⟩)
      have HNX := Lib.hid hnx
      have HLE2 := Lib.hid hle2
      have HSPLIT := Lib.hid hsplit
      have HRS := Lib.hid hrs
      clear hxk hnx hle2 hsplit hrs
      generalize (recsN (xs.take k)).length = at_ at *
      have hszr : W.heap.size ≤ wr.heap.size := HR.out.2.below.size
      gi_wp2_with fail
      refine ⟨trivial, fun _ => by omega, (callsIn_wide.2 HF.out).mono ?_⟩
      rintro e2 w2 ⟨hb2, A3, rfl, hb3⟩
      obtain ⟨fn, tmps, assign, body, hy, hRR⟩ := HY.out (rowsFrom 0 (xs.take k)) (at_, x) #[.int .i64 at_, .slice A3 x.length x.length] rest w2 HSPLIT.out (HJ.out _ _ _ HR.out.1 hb2) ⟨A3, rfl, hb3.mono (fun b hb _ => Nat.le_trans (Nat.le_trans hWs hszr) hb)⟩
      have HB2 := Lib.hid hb2
      clear hb2 hb3
      gi_wp2
      refine ⟨fun _ => by omega, hRR.mono ?_⟩
      rintro e W3 (⟨rfl, hJ3, hk3⟩ | ⟨rfl, hJx3⟩)
      · gi_wp2
        go_roundw
        case rel => exact ⟨k + 1, by omega, by rw [HNX.out]; first | go_num | (congr 1; omega), by rw [HRS.out]; exact hJ3, (HR.out.2.trans (Own.of_bel (Nat.le_trans hWs hszr) HB2.out)).trans hk3⟩
        case measure => have h1 := HNX.out; have h2 := HLE2.out; rw [h1] at h2; simp [intOf]; omega
      · gi_wp2
        rw [Exit.noGoto_normal]
        go_end0
        exact ⟨⟨_, rfl⟩, .inr ⟨_, _, rest, HSPLIT.out, hJx3⟩⟩
    · obtain rfl : k = xs.length := by omega
      have hrs : rowsFrom 0 (xs.take xs.length) = rowsFrom 0 xs := by rw [List.take_length]
      have hat : (recsN (xs.take xs.length)).length = (recsN xs).length := by rw [List.take_length]
      have HF := Lib.hid (HRD.out wr HR.out.2.below ((recsN (xs.take xs.length)).length) none (fun q hq => by have := rows_le xs 0 q hq; omega))
      rw [hrs] at HR
      clear hrs hat
      generalize (recsN (xs.take xs.length)).length = at_ at *
      gi_wp2_with fail
      refine ⟨trivial, fun _ => by omega, (callsIn_wide.2 HF.out).mono ?_⟩
      rintro e2 w2 ⟨hb2, rfl⟩
      have HJ2 : Hid (J (rowsFrom 0 xs) w2) := HJ.out _ _ _ HR.out.1 hb2
      clear hb2
      gi_wp2
      first
      | (refine ⟨(fun f hf => by cases hf), ?_⟩; gi_wp2; rw [Exit.noGoto_normal]; go_end0; exact ⟨⟨_, rfl⟩, .inl HJ2.out⟩)
      | (rw [Exit.noGoto_normal]; go_end0; exact ⟨⟨_, rfl⟩, .inl HJ2.out⟩)
end Go.Proofs.YtiajggmnfaidjaaGreatDoor
