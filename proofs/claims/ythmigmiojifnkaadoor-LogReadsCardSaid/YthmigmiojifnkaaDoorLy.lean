/-
  No log: what is told of none, and of one without a disk.
-/
import Derived.Test.YthmigmiojifnkaaDoorLn
import Derived.Test.YthmigmiojifnkaaDoorDx
import Derived.Test.YthmigmiojifnkaaDoorLu
set_option linter.unusedVariables false
set_option linter.unusedSimpArgs false
set_option linter.unusedVariables false
set_option linter.unusedSimpArgs false
namespace Go.Proofs.YthmigmiojifnkaaDoor
open Go.RowKit Go.Shelf
attribute [local go_sem] Oper.semAt_some

/-- Nil, or a log without a disk. -/
def NoLog (w : World) (p : Option Addr) : Prop := p = none ∨ ∃ b, p = some ⟨b, 0, none⟩ ∧ w.heap[b]? = some (.cells #[.pointer none, .int .i64 0, .int .i64 0, .int .i64 0] 71 (0, 0))
theorem NoLog.bel {w w' : World} {p : Option Addr} (h : NoLog w p) (hb : Bel w w') : NoLog w' p := by
  rcases h with h | ⟨b, h1, h2⟩
  · exact .inl h
  · exact .inr ⟨b, h1, hb.deferred h2⟩
theorem NoLog.below {w w' : World} {p : Option Addr} {n₀ : Nat} (h : NoLog w p) (hb : Below n₀ w w') (hp : ∀ a, p = some a → a.block < n₀) : NoLog w' p := by
  rcases h with h | ⟨b, h1, h2⟩
  · exact .inl h
  · exact .inr ⟨b, h1, (hb.block b (hp _ h1)).trans h2⟩
theorem lnone_no {w : World} {p : Option Addr} (h : NoLog w p) : Calls Tryd.prog 56 #[.pointer p] w fun e w' => e = .returned (.bool true) ∧ w = w' := by
  rcases h with rfl | ⟨b, rfl, hb⟩
  · exact lnone_nil w
  · have c0 : w.cell? ⟨b, 0, none⟩ = some (.pointer none) := by simp [World.cell?, hb]
    clear hb
    go_enter Tryd.func56, Tryd.ntmps56
    go_wp2
    go_ret
    exact ⟨rfl, rfl⟩
theorem lend_no {w : World} {p : Option Addr} (h : NoLog w p) : Calls Tryd.prog 23 #[.pointer p] w fun e w' => e = .returned (.int .i64 0) ∧ w = w' := by
  have HN := Lib.hid (lnone_no h)
  clear h
  go_enter Tryd.func23, Tryd.ntmps23
  go_wp2_with (go_at_call 56; refine HN.out.mono ?_; rintro e w' ⟨rfl, rfl⟩)
  go_ret
  exact ⟨rfl, rfl⟩
theorem ltorn_no {w : World} {p : Option Addr} (h : NoLog w p) : Calls Tryd.prog 36 #[.pointer p] w fun e w' => e = .returned (.int .i64 0) ∧ w = w' := by
  have HN := Lib.hid (lnone_no h)
  clear h
  go_enter Tryd.func36, Tryd.ntmps36
  go_wp2_with (go_at_call 56; refine HN.out.mono ?_; rintro e w' ⟨rfl, rfl⟩)
  go_ret
  exact ⟨rfl, rfl⟩
theorem lappend_no {w : World} {p : Option Addr} (h : NoLog w p) (v : Value) : Calls Tryd.prog 54 #[.pointer p, v] w fun e w' => e = .returned (.iface 142 (.agg #[.int .i64 0, .int .i64 1])) ∧ Bel w w' := by
  have HN := Lib.hid (lnone_no h)
  clear h
  go_enter Tryd.func54, Tryd.ntmps54
  go_wp2_with (go_at_call 56; refine HN.out.mono ?_; rintro e w' ⟨rfl, rfl⟩)
  go_ret
  exact ⟨rfl, Bel.refl _⟩
theorem lAppend_no {w : World} {p : Option Addr} (h : NoLog w p) (hg : ErrType w) (v : Value) : Calls Tryd.prog 21 #[.pointer p, v] w fun e w' => e = .returned (.tuple #[.int .i64 0, .int .i64 1]) ∧ Bel w w' := by
  have HE := Lib.hid (lend_no h)
  have HA := Lib.hid (lappend_no h v)
  have HG := Lib.hid hg
  clear h hg
  go_enter Tryd.func21, Tryd.ntmps21
  go_wp2_with (first | (go_at_call 23; refine HE.out.mono ?_; rintro e w' ⟨rfl, rfl⟩) | (go_at_call 54; refine HA.out.mono ?_; rintro e w1 ⟨rfl, hb⟩; have HB := Lib.hid hb; clear hb) | (go_at_call 55; refine (lnumber_fault _ _ _ (HG.out.bel HB.out)).mono ?_; rintro e w2 ⟨rfl, hb2⟩))
  go_ret2
  exact ⟨rfl, HB.out.then_ hb2⟩
theorem lRead_no {w : World} {p : Option Addr} (h : NoLog w p) (a : Int) : Calls Tryd.prog 34 #[.pointer p, .int .i64 a] w fun e w' => e = .returned (.tuple #[.slice none 0 0, .int .i64 0, .int .i64 1]) ∧ Bel w w' := by
  obtain ⟨W, hW⟩ : ∃ W, W = (((w.alloc (.cells #[.int .i64 a] 3)).alloc (.cells #[.slice none 0 0] 31)).alloc (.cells #[.int .i64 0] 3)).alloc (.cells #[.int .i64 0] 26) := ⟨_, rfl⟩
  have hbW : Bel w W := by rw [hW]; exact ((((Bel.refl w).alloc _).alloc _).alloc _).alloc _
  have HN := Lib.hid (lnone_no (h.bel hbW))
  have HBW := Lib.hid hbW
  subst hW
  clear h hbW
  go_enter Tryd.func34, Tryd.ntmps34
  go_wp2_with (go_at_call 56; refine HN.out.mono ?_; rintro e w' ⟨rfl, rfl⟩)
  exact bodyPost_ret (v := .tuple #[.slice none 0 0, .int .i64 0, .int .i64 1]) (by simp [results, Tryd.results34, go_sem]) rfl ⟨rfl, ((((Bel.refl w).alloc _).alloc _).alloc _).alloc _⟩
theorem lopen_no {w : World} {p : Option Addr} (h : NoDisk w p) (hg : ErrType w) (file : Int) : Calls Tryd.prog 20 #[.pointer p, .int .i64 file] w fun e w' => e = .returned (.tuple #[.pointer none, .int .i64 1]) ∧ Bel w w' := by
  have HR := Lib.hid (read_no h hg file)
  clear h hg
  go_enter Tryd.func20, Tryd.ntmps20
  go_wp2_with fail
  refine HR.out.mono ?_
  rintro e w1 ⟨rfl, hb⟩
  have HB := Lib.hid hb
  clear hb
  go_wp2
  go_ret2
  exact ⟨rfl, HB.out⟩
set_option maxRecDepth 100000 in
theorem each_seq_no (n : Nat) (hn : 6 ≤ n) {w : World} {n₀ B1 B2 : Nat} {p : Option Addr} (h : NoLog w p) (hp : ∀ a, p = some a → a.block < n₀) (hB1 : B1 < n₀) (hB2 : B2 < n₀) (hn0 : n₀ ≤ w.heap.size)
    (c1 : w.cell? ⟨B1, 0, none⟩ = some (.pointer p)) (a0 : Int) (c2 : w.cell? ⟨B2, 0, none⟩ = some (.int .i64 a0)) :
    SeqR Fence.wide n Tryd.prog 67 #[] #[.pointer (some ⟨B1, 0, none⟩), .pointer (some ⟨B2, 0, none⟩)] (ELog n₀) n₀ [] w := fun l' J Jx W hW hJ hY hJ0 => by
  have d1 := (hW.cell (p := ⟨B1, 0, none⟩) hB1).trans c1
  have d2 := (hW.cell (p := ⟨B2, 0, none⟩) hB2).trans c2
  have HF := Lib.hid (lRead_no (h.below hW hp) a0)
  have HJ := Lib.hid hJ
  have HJ0 := Lib.hid hJ0
  clear h hJ hY hJ0 c1 c2
  refine callsIn_of_wp Tryd.func67 rfl trivial ?_ rfl
  simp only [Tryd.ntmps67, List.size_toArray, List.length_cons, List.length_nil, Nat.reduceAdd, Nat.reduceSub, Array.replicate_succ, Array.replicate_zero, List.push_toArray, List.append_toArray, List.nil_append, List.cons_append]
  gi_wp2
  refine wpIn_scope_wide ?_
  gi_wp2
  refine wpIn_label ?_
  gi_wp2
  gi_loopw [5] (fun i wr => i = .int .i64 a0 ∧ wr = W) (fun _ _ => 0)
  case atStart => exact ⟨rfl, rfl⟩
  case round =>
    obtain ⟨rfl, rfl⟩ := hrel
    gi_wp2_with fail
    refine ⟨trivial, fun _ => by omega, (callsIn_wide.2 HF.out).mono ?_⟩
    rintro e2 w2 ⟨rfl, hb2⟩
    have HJ2 : Hid (J [] w2) := HJ.out _ _ _ HJ0.out hb2
    clear hb2
    gi_wp2
    first
    | (refine ⟨(fun f hf => by cases hf), ?_⟩; gi_wp2; rw [Exit.noGoto_normal]; go_end0; exact ⟨⟨_, rfl⟩, .inl HJ2.out⟩)
    | (rw [Exit.noGoto_normal]; go_end0; exact ⟨⟨_, rfl⟩, .inl HJ2.out⟩)
end Go.Proofs.YthmigmiojifnkaaDoor
