/-
  The log: Each, from any position.
-/
import Derived.Test.YtiajggmnfaidjaaGreatDoorLe
import Derived.Test.YtiajggmnfaidjaaGreatDoorRi
set_option linter.unusedVariables false
set_option linter.unusedSimpArgs false
set_option linter.unusedVariables false
set_option linter.unusedSimpArgs false
namespace Go.Proofs.YtiajggmnfaidjaaGreatDoor
open Go.RowKit Go.Shelf
attribute [local go_sem] Oper.semAt_some

theorem rows_length (xs : List (List UInt8)) : (rowsFrom 0 xs).length = xs.length := by have := congrArg List.length (rowsFrom_snd' xs 0); simpa using this
set_option maxRecDepth 100000 in
set_option maxHeartbeats 4000000 in
theorem each_seq_at (n : Nat) (hn : 6 ≤ n) {w : World} {bl bd n₀ B1 B2 : Nat} {m : DM} {file en tn : Int} {fd : Nat → Prop} (h : LogIs w bl bd m file en tn fd) (hfit : Fit m) (h0 : 0 ≤ file) (h64 : file < 64) (hbl : bl < n₀) (hfd : ∀ b, fd b → b < n₀) (hB1 : B1 < n₀) (hB2 : B2 < n₀) (hn0 : n₀ ≤ w.heap.size)
    (c1 : w.cell? ⟨B1, 0, none⟩ = some (.pointer (some ⟨bl, 0, none⟩))) (a0 : Int) (c2 : w.cell? ⟨B2, 0, none⟩ = some (.int .i64 a0))
    (xs : List (List UInt8)) (t : List UInt8) (hx : ∀ x ∈ xs, x.length ≤ 60000) (ht : firstL t = none) (hs : m.files file = recsN xs ++ t) (k0 : Nat) (hk0 : k0 ≤ xs.length) (hst : (k0 < xs.length → a0 = (recsN (xs.take k0)).length) ∧ (k0 = xs.length → ∀ q ∈ rowsFrom 0 xs, (q.1 : Int) ≠ a0)) :
    SeqR Fence.wide n Tryz.prog 56 #[] #[.pointer (some ⟨B1, 0, none⟩), .pointer (some ⟨B2, 0, none⟩)] (ELog n₀) n₀ ((rowsFrom 0 xs).drop k0) w := fun l' J Jx W hW hJ hY hJ0 => by
  have hfl : (recsN xs).length ≤ 16777216 := by
    have h1 := len_le_tot m.files file h0 h64
    have h2 := hfit.files
    have h3 := hfit.hi
    have h4 := congrArg List.length hs
    rw [List.length_append] at h4
    omega
  have d1 := (hW.cell (p := ⟨B1, 0, none⟩) hB1).trans c1
  have d2 := (hW.cell (p := ⟨B2, 0, none⟩) hB2).trans c2
  have HLOG := Lib.hid (h.below hW hbl hfd)
  have HRD := Lib.hid (fun (V : World) (hV : Below n₀ W V) (a : Int) (r : Option (Nat × List UInt8)) hr => lRead_any ((h.below hW hbl hfd).below hV hbl hfd) hfit h0 h64 xs t hx ht hs a r hr)
  have HST := Lib.hid hst
  have HJ := Lib.hid hJ
  have HY := Lib.hid hY
  have HJ0 := Lib.hid hJ0
  have hWs : n₀ ≤ W.heap.size := Nat.le_trans hn0 hW.size
  have HFL := Lib.hid hfl
  clear h hfit hJ hY hJ0 hs ht hx hfl c1 c2 hst
  refine callsIn_of_wp Tryz.func56 rfl trivial ?_ rfl
  simp only [Tryz.ntmps56, List.size_toArray, List.length_cons, List.length_nil, Nat.reduceAdd, Nat.reduceSub, Array.replicate_succ, Array.replicate_zero, List.push_toArray, List.append_toArray, List.nil_append, List.cons_append]
  gi_wp2
  refine wpIn_scope_wide ?_
  gi_wp2
  refine wpIn_label ?_
  gi_wp2
  gi_loopw [5] (fun i wr => ∃ (k : Nat) (av : Int), k0 ≤ k ∧ k ≤ xs.length ∧ i = .int .i64 av ∧ Hid ((k < xs.length → av = (recsN (xs.take k)).length) ∧ (k = xs.length → ∀ q ∈ rowsFrom 0 xs, (q.1 : Int) ≠ av)) ∧ Hid (J ((rowsFrom 0 (xs.take k)).drop k0) wr ∧ Own n₀ W.heap.size W wr)) (fun i _ => (recsN xs).length + 1 - (intOf i).toNat)
  case atStart => exact ⟨k0, a0, Nat.le_refl _, hk0, rfl, HST.out, by rw [List.drop_eq_nil_of_le (by rw [rows_length, List.length_take]; omega)]; exact HJ0.out, Own.refl _ _ _⟩
  case round =>
    obtain ⟨k, av, hkk, hk, rfl, HAV, HR⟩ := hrel
    by_cases hlt : k < xs.length
    · obtain ⟨x, hxk⟩ : ∃ x, xs[k]? = some x := ⟨_, List.getElem?_eq_getElem hlt⟩
      have hnx := recs_take hxk
      have hle2 := recs_len xs (k + 1)
      obtain ⟨rest, hsplit0⟩ := rows_split hxk
      have hrs0 := rows_succ hxk
      have hrl : k0 ≤ (rowsFrom 0 (xs.take k)).length := by rw [rows_length, List.length_take]; omega
      have hsplit : (rowsFrom 0 xs).drop k0 = (rowsFrom 0 (xs.take k)).drop k0 ++ ((recsN (xs.take k)).length, x) :: rest := by rw [hsplit0, List.drop_append_of_le_length hrl]
      have hrs : (rowsFrom 0 (xs.take (k + 1))).drop k0 = (rowsFrom 0 (xs.take k)).drop k0 ++ [((recsN (xs.take k)).length, x)] := by rw [hrs0, List.drop_append_of_le_length hrl]
      obtain rfl := HAV.out.1 hlt
      have HF := Lib.hid (HRD.out wr HR.out.2.below ((recsN (xs.take k)).length) (some ((recsN (xs.take k)).length, x)) ⟨by rw [hsplit0]; simp, rfl⟩)
      clear hsplit0 hrs0 hrl HAV
      have HAV2 : Hid ((k + 1 < xs.length → ((recsN (xs.take (k + 1))).length : Int) = (recsN (xs.take (k + 1))).length) ∧ (k + 1 = xs.length → ∀ q ∈ rowsFrom 0 xs, (q.1 : Int) ≠ (recsN (xs.take (k + 1))).length)) := ⟨fun _ => rfl, fun e q hq => by
        have h1 := rows_le xs 0 q hq
        have h2 : (xs.take (k + 1)) = xs := by rw [e, List.take_length]
        rw [h2]
        omega⟩
      have HNX := Lib.hid hnx
      have HLE2 := Lib.hid hle2
      have HSPLIT := Lib.hid hsplit
      have HRS := Lib.hid hrs
      clear hxk hnx hle2 hsplit hrs
      generalize (recsN (xs.take k)).length = at_ at *
      have hszr : W.heap.size ≤ wr.heap.size := HR.out.2.below.size
      gi_wp2_with fail
      refine ⟨trivial, fun _ => by omega, (callsIn_wide.2 HF.out).mono ?_⟩
      rintro e2 w2 ⟨hb2, A3, rfl, hb3⟩
      obtain ⟨fn, tmps, assign, body, hy, hRR⟩ := HY.out ((rowsFrom 0 (xs.take k)).drop k0) (at_, x) #[.int .i64 at_, .slice A3 x.length x.length] rest w2 HSPLIT.out (HJ.out _ _ _ HR.out.1 hb2) ⟨A3, rfl, hb3.mono (fun b hb _ => Nat.le_trans (Nat.le_trans hWs hszr) hb)⟩
      have HB2 := Lib.hid hb2
      clear hb2 hb3
      gi_wp2
      refine ⟨fun _ => by omega, hRR.mono ?_⟩
      rintro e W3 (⟨rfl, hJ3, hk3⟩ | ⟨rfl, hJx3⟩)
      · gi_wp2
        go_roundw
        case rel => exact ⟨k + 1, ((recsN (xs.take (k + 1))).length : Int), by omega, by omega, by (rw [HNX.out]; first | go_num | (congr 1; omega)), ⟨fun _ => rfl, HAV2.out.2⟩, by rw [HRS.out]; exact hJ3, (HR.out.2.trans (Own.of_bel (Nat.le_trans hWs hszr) HB2.out)).trans hk3⟩
        case measure => have h1 := HNX.out; have h2 := HLE2.out; rw [h1] at h2; simp [intOf]; omega
      · gi_wp2
        rw [Exit.noGoto_normal]
        go_end0
        exact ⟨⟨_, rfl⟩, .inr ⟨_, _, rest, HSPLIT.out, hJx3⟩⟩
    · obtain rfl : k = xs.length := by omega
      have hrs : rowsFrom 0 (xs.take xs.length) = rowsFrom 0 xs := by rw [List.take_length]
      have HF := Lib.hid (HRD.out wr HR.out.2.below av none (HAV.out.2 rfl))
      rw [hrs] at HR
      clear hrs
      gi_wp2_with fail
      refine ⟨trivial, fun _ => by omega, (callsIn_wide.2 HF.out).mono ?_⟩
      rintro e2 w2 ⟨hb2, rfl⟩
      have HJ2 : Hid (J ((rowsFrom 0 xs).drop k0) w2) := HJ.out _ _ _ HR.out.1 hb2
      clear hb2
      gi_wp2
      first
      | (refine ⟨(fun f hf => by cases hf), ?_⟩; gi_wp2; rw [Exit.noGoto_normal]; go_end0; exact ⟨⟨_, rfl⟩, .inl HJ2.out⟩)
      | (rw [Exit.noGoto_normal]; go_end0; exact ⟨⟨_, rfl⟩, .inl HJ2.out⟩)
end Go.Proofs.YtiajggmnfaidjaaGreatDoor
