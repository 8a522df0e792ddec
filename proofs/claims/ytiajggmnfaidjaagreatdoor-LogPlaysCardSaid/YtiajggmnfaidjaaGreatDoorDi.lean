/-
  errors.Is at a disk's fault, and Cut; Copy.
-/
import Derived.Test.YtiajggmnfaidjaaGreatDoorDh
set_option linter.unusedVariables false
set_option linter.unusedSimpArgs false
set_option linter.unusedVariables false
set_option linter.unusedSimpArgs false
namespace Go.Proofs.YtiajggmnfaidjaaGreatDoor
open Go.RowKit Go.Extern.Stop Go.Stop Go.Extern

theorem eqlIn_errno {P : Program} {ti tn : TypeId} {ms : Array (String × TypeId)} {i : TypeInfo} {k : IntKind} (hi : P.underlying ti = some (.interface ms)) (hn : P.underlying tn = some (.int k)) (hinfo : P.info? tn = some i) (hcomp : i.comparable = true) (d : Nat) (a b : Int) (w : World) :
    (Op.equalIn (d + 2) ti (.iface tn (.int k a)) (.iface tn (.int k b))).run P w = .ok (a == b) w := by
  simp [Op.equalIn, run_underlying hi, run_underlying hn, typeInfo, hinfo, hcomp]
theorem eql_errno {P : Program} {ti tn : TypeId} {ms : Array (String × TypeId)} {i : TypeInfo} {k : IntKind} (hi : P.underlying ti = some (.interface ms)) (hn : P.underlying tn = some (.int k)) (hinfo : P.info? tn = some i) (hcomp : i.comparable = true) (a b : Int) (w : World) :
    (binOp .eql ti (.iface tn (.int k a)) (.iface tn (.int k b))).run P w = .ok (.bool (a == b)) w := by
  simp only [binOp]
  simp [Op.equal, Op.maxDepth, eqlIn_errno hi hn hinfo hcomp 9998 a b w]
def comparableOf : Array Value → Sem Value := Extern.ReflectliteType.method fun t => do Rtype.noPackHeld "Comparable" t; pure (.bool (← typeInfo t).comparable)
theorem isComparable (w : World) : (comparableOf #[.agg #[.pointer (some ⟨1, 26, none⟩)]]).run Tryz.prog w = .ok (.bool true) w := by kernel_rfl
theorem isMComparable (v : Value) (w : World) : (Go.method 300 155 v "Comparable").run Tryz.prog w = .ok (114, v) w := by kernel_rfl
theorem isComp : (Tryz.prog.info? 26).map (·.comparable) = some true := by kernel_rfl
theorem isEnoIs (v : Value) (xT : TypeId) (w : World) : (Instr.typeAssert (.iface 26 v) xT 157 true).run Tryz.prog w = .ok (.tuple #[.nilIface, .bool false]) w := run_typeAssert_lacksB Tryz.underlying157 (by kernel_rfl) (by kernel_rfl) v xT w
theorem isEnoUnwrap (v : Value) (xT : TypeId) (w : World) : (Instr.typeAssert (.iface 26 v) xT 160 true).run Tryz.prog w = .ok (.tuple #[.nilIface, .bool false]) w := run_typeAssert_lacksB Tryz.underlying160 (by kernel_rfl) (by kernel_rfl) v xT w
theorem isEnoUnwraps (v : Value) (xT : TypeId) (w : World) : (Instr.typeAssert (.iface 26 v) xT 162 true).run Tryz.prog w = .ok (.tuple #[.nilIface, .bool false]) w := run_typeAssert_lacksB Tryz.underlying162 (by kernel_rfl) (by kernel_rfl) v xT w
theorem isFnoIs (v : Value) (xT : TypeId) (w : World) : (Instr.typeAssert (.iface 100 v) xT 157 true).run Tryz.prog w = .ok (.tuple #[.nilIface, .bool false]) w := run_typeAssert_lacksB Tryz.underlying157 (by kernel_rfl) (by kernel_rfl) v xT w

set_option maxRecDepth 100000 in
theorem is_nil (j : Int) (w : World) : Calls Tryz.prog 48 #[.nilIface, .iface 26 (.int .i64 j)] w fun e w' => e = .returned (.bool false) ∧ w = w' := by
  have hq := fun (w : World) => (show (binOp .eql 87 .nilIface (.iface 26 (.int .i64 j))).run Tryz.prog w = .ok (.bool false) w by kernel_rfl)
  go_enter Tryz.func48, Tryz.ntmps48
  go_wp2
  go_ret
  exact ⟨rfl, rfl⟩
set_option maxRecDepth 100000 in
set_option maxHeartbeats 1000000 in
theorem is_fault (p : Nat) (k j : Int) (w : World) (hp : FaultAt w p k) : Calls Tryz.prog 48 #[.iface 100 (.pointer (some ⟨p, 0, none⟩)), .iface 26 (.int .i64 j)] w fun e w' => e = .returned (.bool (k == j)) ∧ w = w' := by
  obtain ⟨i, hi, hcmp⟩ := Option.map_eq_some_iff.1 isComp
  obtain ⟨fl, hp⟩ := hp
  have hwhy : w.cell? ⟨p, 1, none⟩ = some (.iface 26 (.int .i64 k)) := by simp [World.cell?, hp]
  clear hp
  have h1 := @run_callFunc_extern Tryz.prog 64 _ Extern.ReflectliteType.typeOf Tryz.func64 (by kernel_rfl) (by kernel_rfl) (by kernel_rfl) (by kernel_rfl)
  have h2 := @run_callFunc_extern Tryz.prog 114 _ comparableOf Tryz.func114 (by kernel_rfl) (by kernel_rfl) (by kernel_rfl) (by kernel_rfl)
  have tT := asTypeOf
  have cT := isComparable
  have mR := isMComparable
  have nE := isEnoIs
  have uE := isEnoUnwrap
  have vE := isEnoUnwraps
  have nF := isFnoIs
  have uF := asHasUnwrap
  have mU := asMUnwrap
  have heq := eql_errno (P := Tryz.prog) Tryz.underlying87 Tryz.underlying26 hi hcmp k j
  have hne := fun (v u : Value) (w : World) => run_eql_iface_types (P := Tryz.prog) 100 26 v u Tryz.underlying87 (by decide) w
  clear hi hcmp
  by_cases hab : (k == j) = true
  · rw [hab] at heq ⊢
    have HAB := Lib.hid hab
    clear hab
    go_enter Tryz.func48, Tryz.ntmps48
    go_wp2
    refine wp_loop_rounds 2 ?_
    rw [rounds_succ]
    go_wp2
    rw [rounds_succ]
    go_wp2
    go_ret
    exact ⟨rfl, rfl⟩
  · rw [Bool.not_eq_true] at hab
    rw [hab] at heq ⊢
    have HAB := Lib.hid hab
    clear hab
    go_enter Tryz.func48, Tryz.ntmps48
    go_wp2
    refine wp_loop_rounds 2 ?_
    rw [rounds_succ]
    go_wp2
    rw [rounds_succ]
    go_wp2
    go_ret
    exact ⟨rfl, rfl⟩
def DM.cut (m : DM) (file many : Int) : DM × Int :=
  if many < 0 then (m, 2) else if (file < 0 ∨ 64 ≤ file) ∨ ((m.files file).length : Int) < many then (m, 4) else ({ m with files := doneF m.files ⟨file, [], many, true⟩, loose := m.loose ++ [⟨file, [], many, true⟩] }, 0)
set_option maxRecDepth 100000 in
set_option maxHeartbeats 1000000 in
theorem cutM_any {w : World} {bd : Nat} {m : DM} {fp : Nat → Prop} (h : DiskIs w bd m fp) (hfit : Fit m) (hg : ErrType w) (file many : Int) :
    Calls Tryz.prog 22 #[.pointer (some ⟨bd, 0, none⟩), .int .i64 file, .int .i64 many] w (GivesOp bd (m.cut file many).1 (m.cut file many).2 fp w) := by
  have HD := Lib.hid h
  have HG := Lib.hid hg
  by_cases hf : file < 0 ∨ 64 ≤ file
  · have HA := Lib.hid (asked_out h hfit.ne file hf)
    by_cases hm : many < 0
    · have HM : Hid (m.cut file many = (m, 2)) := by show _ = _; unfold DM.cut; rw [if_pos hm]
      clear h hg hf hfit
      go_enter Tryz.func22, Tryz.ntmps22
      go_wp2_with fail
      refine HA.out.mono ?_
      rintro e w1 ⟨p, rfl, hp, hb⟩
      have HB := Lib.hid hb
      have HI := Lib.hid (is_fault p 4 1 w1 hp)
      clear hb hp
      go_wp2_with fail
      refine HI.out.mono ?_
      rintro e w2 ⟨rfl, rfl⟩
      go_wp2
      go_ret
      rw [HM.out]
      exact GivesOp.same HD.out HB.out
    · have HM : Hid (m.cut file many = (m, 4)) := by show _ = _; unfold DM.cut; rw [if_neg hm, if_pos (.inl hf)]
      have hm' : decide (many < 0) = false := by simp; omega
      clear h hg hf hfit hm
      go_enter Tryz.func22, Tryz.ntmps22
      go_wp2_with fail
      refine HA.out.mono ?_
      rintro e w1 ⟨p, rfl, hp, hb⟩
      have HB := Lib.hid hb
      have HP := Lib.hid (dnumber_fault p 4 w1 (HG.out.bel hb) hp)
      clear hb hp
      go_wp2_with fail
      refine HP.out.mono ?_
      rintro e w2 ⟨rfl, hb2⟩
      have HB2 := Lib.hid hb2
      clear hb2
      go_wp2
      go_ret
      rw [HM.out]
      exact GivesOp.same HD.out (HB.out.then_ HB2.out)
  · have hf0 : 0 ≤ file := by omega
    have hf1 : file < 64 := by omega
    have HA := Lib.hid (asked_ok h hfit.ne file hf0 hf1)
    by_cases hm : many < 0
    · have HM : Hid (m.cut file many = (m, 2)) := by show _ = _; unfold DM.cut; rw [if_pos hm]
      clear h hg hf hfit hf0 hf1
      go_enter Tryz.func22, Tryz.ntmps22
      go_wp2_with fail
      refine HA.out.mono ?_
      rintro e w1 ⟨rfl, rfl⟩
      go_wp2_with fail
      refine (is_nil _ _).mono ?_
      rintro e w2 ⟨rfl, rfl⟩
      go_wp2
      go_ret
      rw [HM.out]
      exact GivesOp.same HD.out (Bel.refl _)
    · obtain ⟨mf, ms, L, cs, hX⟩ := h.x
      have c0 : w.cell? ⟨bd, 0, none⟩ = some (.map (some mf)) := by simp [World.cell?, hX.blk]
      obtain ⟨v, hv, hlk⟩ := hX.files.get file
      have hll := len_le_tot m.files file hf0 hf1
      have hfi := hfit.files
      have hhi := hfit.hi
      obtain ⟨A, cap, rfl, -⟩ := id hv
      have hm' : decide (many < 0) = false := by simp; omega
      have HLL := Lib.hid hll
      have HF0 := Lib.hid hf0
      have HF1 := Lib.hid hf1
      have HFIT := Lib.hid hfit
      by_cases hlong : ((m.files file).length : Int) < many
      · have HM : Hid (m.cut file many = (m, 4)) := by show _ = _; unfold DM.cut; rw [if_neg hm, if_pos (.inr hlong)]
        have HP : Hid (∀ f, Calls Tryz.prog 45 #[.iface 100 (.pointer (some ⟨w.heap.size, 0, none⟩))] (w.alloc (.cells #[f, .iface 26 (.int .i64 4)] 102)) fun e w' => e = .returned (.int .i64 4) ∧ Bel (w.alloc (.cells #[f, .iface 26 (.int .i64 4)] 102)) w') :=
          fun f => dnumber_fault _ _ _ (hg.bel ((Bel.refl _).alloc _)) ⟨f, World.alloc_heap_new _ _⟩
        clear h hg hf hfit hX hv hll hfi hhi hf0 hf1 hm
        go_enter Tryz.func22, Tryz.ntmps22
        go_wp2_with fail
        refine HA.out.mono ?_
        rintro e w1 ⟨rfl, rfl⟩
        go_wp2_with fail
        refine (HP.out _).mono ?_
        rintro e w2 ⟨rfl, hb2⟩
        have HB2 : Hid (Bel w w2) := ((Bel.refl w).alloc _).then_ hb2
        clear hb2
        go_wp2
        go_ret
        rw [HM.out]
        exact GivesOp.same HD.out HB2.out
      · have HM : Hid (m.cut file many = ({ m with files := doneF m.files ⟨file, [], many, true⟩, loose := m.loose ++ [⟨file, [], many, true⟩] }, 0)) := by show _ = _; unfold DM.cut; rw [if_neg hm, if_neg (by simp; omega)]
        have HCU := Lib.hid (cut_any file many hf0 hf1 (by omega) (by omega) w)
        have hle : many ≤ (m.files file).length := by omega
        clear h hg hf hfit hX hv hll hfi hhi hf0 hf1 hm
        go_enter Tryz.func22, Tryz.ntmps22
        go_wp2_with fail
        refine HA.out.mono ?_
        rintro e w1 ⟨rfl, rfl⟩
        go_wp2_with fail
        refine HCU.out.mono ?_
        rintro e w2 ⟨c0, c1, c2, c3, c4, rfl, hth, hb2⟩
        have hD2 := (HD.out.bel hb2).mono (fp' := fun b => fp b ∨ w.heap.size ≤ b) (fun b h => .inl h)
        have HDO := Lib.hid (do_any hD2 (hth.kept (fun _ _ _ => rfl) (fun b h => .inr h)) (by have := HLL.out; have := HFIT.out.files; have := HFIT.out.hi; unfold manyB; show (m.files file).length + 0 ≤ _; omega) HFIT.out.few)
        have HB2 := Lib.hid hb2
        clear hb2 hth hD2
        go_wp2_with fail
        refine HDO.out.mono ?_
        rintro e w3 ⟨rfl, hD3, ho3⟩
        have HD3 := Lib.hid hD3
        have HO3 := Lib.hid ho3
        clear hD3 ho3
        go_wp2
        go_ret
        rw [HM.out]
        exact ⟨rfl, _, HD3.out, Opp.trans (Opp.wider (Opp.of_bel HB2.out)) HO3.out⟩
end Go.Proofs.YtiajggmnfaidjaaGreatDoor
