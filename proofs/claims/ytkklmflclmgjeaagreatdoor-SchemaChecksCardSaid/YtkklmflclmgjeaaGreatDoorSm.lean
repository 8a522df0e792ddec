/-
  errors.Is at a schema's fault; rows of a schema.
-/
import Derived.Test.YtkklmflclmgjeaaGreatDoorSl
set_option linter.unusedVariables false
set_option linter.unusedSimpArgs false
set_option linter.unusedVariables false
set_option linter.unusedSimpArgs false
namespace Go.Proofs.YtkklmflclmgjeaaGreatDoor
open Go.RowKit Go.Shelf Go.Lib Go.Extern.Stop Go.Stop Go.Extern
attribute [local go_sem] Oper.semAt_some

theorem eqlIn_errno {P : Program} {ti tn : TypeId} {ms : Array (String × TypeId)} {i : TypeInfo} {k : IntKind} (hi : P.underlying ti = some (.interface ms)) (hn : P.underlying tn = some (.int k)) (hinfo : P.info? tn = some i) (hcomp : i.comparable = true) (d : Nat) (a b : Int) (w : World) :
    (Op.equalIn (d + 2) ti (.iface tn (.int k a)) (.iface tn (.int k b))).run P w = .ok (a == b) w := by
  simp [Op.equalIn, run_underlying hi, run_underlying hn, typeInfo, hinfo, hcomp]
theorem eql_errno {P : Program} {ti tn : TypeId} {ms : Array (String × TypeId)} {i : TypeInfo} {k : IntKind} (hi : P.underlying ti = some (.interface ms)) (hn : P.underlying tn = some (.int k)) (hinfo : P.info? tn = some i) (hcomp : i.comparable = true) (a b : Int) (w : World) :
    (binOp .eql ti (.iface tn (.int k a)) (.iface tn (.int k b))).run P w = .ok (.bool (a == b)) w := by
  simp only [binOp]
  simp [Op.equal, Op.maxDepth, eqlIn_errno hi hn hinfo hcomp 9998 a b w]
def comparableOf : Array Value → Sem Value := Extern.ReflectliteType.method fun t => do Rtype.noPackHeld "Comparable" t; pure (.bool (← typeInfo t).comparable)
theorem isComparable (w : World) : (comparableOf #[.agg #[.pointer (some ⟨4, 32, none⟩)]]).run Tryz.prog w = .ok (.bool true) w := by kernel_rfl
theorem isMComparable (v : Value) (w : World) : (Go.method 390 218 v "Comparable").run Tryz.prog w = .ok (222, v) w := by kernel_rfl
theorem isComp : (Tryz.prog.info? 32).map (·.comparable) = some true := by kernel_rfl
theorem isEnoIs (v : Value) (xT : TypeId) (w : World) : (Instr.typeAssert (.iface 32 v) xT 230 true).run Tryz.prog w = .ok (.tuple #[.nilIface, .bool false]) w := run_typeAssert_lacksB Tryz.underlying230 (by kernel_rfl) (by kernel_rfl) v xT w
theorem isEnoUnwrap (v : Value) (xT : TypeId) (w : World) : (Instr.typeAssert (.iface 32 v) xT 225 true).run Tryz.prog w = .ok (.tuple #[.nilIface, .bool false]) w := run_typeAssert_lacksB Tryz.underlying225 (by kernel_rfl) (by kernel_rfl) v xT w
theorem isEnoUnwraps (v : Value) (xT : TypeId) (w : World) : (Instr.typeAssert (.iface 32 v) xT 227 true).run Tryz.prog w = .ok (.tuple #[.nilIface, .bool false]) w := run_typeAssert_lacksB Tryz.underlying227 (by kernel_rfl) (by kernel_rfl) v xT w
theorem isFnoIs (v : Value) (xT : TypeId) (w : World) : (Instr.typeAssert (.iface 149 v) xT 230 true).run Tryz.prog w = .ok (.tuple #[.nilIface, .bool false]) w := run_typeAssert_lacksB Tryz.underlying230 (by kernel_rfl) (by kernel_rfl) v xT w

set_option maxRecDepth 100000 in
theorem is_nil (j : Int) (w : World) : Calls Tryz.prog 93 #[.nilIface, .iface 32 (.int .i64 j)] w fun e w' => e = .returned (.bool false) ∧ w = w' := by
  have hq := fun (w : World) => (show (binOp .eql 91 .nilIface (.iface 32 (.int .i64 j))).run Tryz.prog w = .ok (.bool false) w by kernel_rfl)
  go_enter Tryz.func93, Tryz.ntmps93
  go_wp2
  go_ret
  exact ⟨rfl, rfl⟩
set_option maxRecDepth 100000 in
set_option maxHeartbeats 1000000 in
theorem is_fault (p : Nat) (k j : Int) (w : World) (hp : SFaultAt w p k) : Calls Tryz.prog 93 #[.iface 149 (.pointer (some ⟨p, 0, none⟩)), .iface 32 (.int .i64 j)] w fun e w' => e = .returned (.bool (k == j)) ∧ w = w' := by
  obtain ⟨i, hi, hcmp⟩ := Option.map_eq_some_iff.1 isComp
  obtain ⟨fl, hp⟩ := hp
  have hwhy : w.cell? ⟨p, 1, none⟩ = some (.iface 32 (.int .i64 k)) := by simp [World.cell?, hp]
  clear hp
  have h1 := @run_callFunc_extern Tryz.prog 137 _ Extern.ReflectliteType.typeOf Tryz.func137 (by kernel_rfl) (by kernel_rfl) (by kernel_rfl) (by kernel_rfl)
  have h2 := @run_callFunc_extern Tryz.prog 222 _ comparableOf Tryz.func222 (by kernel_rfl) (by kernel_rfl) (by kernel_rfl) (by kernel_rfl)
  have tT := asTypeOf
  have cT := isComparable
  have mR := isMComparable
  have nE := isEnoIs
  have uE := isEnoUnwrap
  have vE := isEnoUnwraps
  have nF := isFnoIs
  have uF := asHasUnwrap
  have mU := asMUnwrap
  have heq := eql_errno (P := Tryz.prog) Tryz.underlying91 Tryz.underlying32 hi hcmp k j
  have hne := fun (v u : Value) (w : World) => run_eql_iface_types (P := Tryz.prog) 149 32 v u Tryz.underlying91 (by decide) w
  clear hi hcmp
  by_cases hab : (k == j) = true
  · rw [hab] at heq ⊢
    have HAB := Lib.hid hab
    clear hab
    go_enter Tryz.func93, Tryz.ntmps93
    go_wp2
    refine wp_loop_rounds 2 ?_
    rw [rounds_succ]
    go_wp2
    rw [rounds_succ]
    go_wp2
    go_ret
    exact ⟨rfl, rfl⟩
  · rw [Bool.not_eq_true] at hab
    rw [hab] at heq ⊢
    have HAB := Lib.hid hab
    clear hab
    go_enter Tryz.func93, Tryz.ntmps93
    go_wp2
    refine wp_loop_rounds 2 ?_
    rw [rounds_succ]
    go_wp2
    rw [rounds_succ]
    go_wp2
    go_ret
    exact ⟨rfl, rfl⟩
theorem scnumber_errno (k : Int) (w : World) (hg : ErrType w) : Calls Tryz.prog 52 #[.iface 32 (.int .i64 k)] w fun e w' => e = .returned (.int .i64 k) ∧ Bel w w' := by
  have hba : Bel w (w.alloc (.cells #[.int .i64 0] 32)) := (Bel.refl w).alloc _
  have H := Lib.hid (as_of 32 (.int .i64 k) k ⟨w.heap.size, 0, none⟩ (.int .i64 0) (w.alloc (.cells #[.int .i64 0] 32)) (hg.bel hba) (by simp) (by simp)
    (fun W b hW h1 h2 h3 => asIn_errno k ⟨w.heap.size, 0, none⟩ b _ _ W h1 h2 h3))
  have HBA := Lib.hid hba
  clear hg hba
  go_enter Tryz.func52, Tryz.ntmps52
  go_wp2_with fail
  refine H.out.mono ?_
  rintro e w1 ⟨rfl, hg1, hc1, hf1⟩
  have HG : Hid (Bel w w1) := Below.grown HBA.out hg1 (by simp) (fun j e => by cases e; exact Nat.le_refl _)
  clear hg1
  go_wp2
  refine bodyPost_ret (v := .int .i64 k) (by simp [results, Tryz.results52, go_sem, hc1, hf1]) rfl ⟨rfl, ?_⟩
  exact HG.out.setCell (Nat.le_refl _) _
theorem scCheck_any (vc vk vu : Value) (cols : List Col) (key : List Int) (uq : List (List Int)) (w : World) (hc : ColsAt w vc cols) (hk : IntsAt w vk key) (hu : ListsAt w vu uq) :
    Calls Tryz.prog 25 #[.agg #[vc, vk, vu]] w fun e w' => e = .returned (.int .i64 (if rightS cols key uq then 0 else 2)) ∧ Bel w w' := by
  have HRI := Lib.hid (fun V (hb : Bel w V) => lookright_any vc vk vu cols key uq V (hc.bel hb) (hk.bel hb) (hu.bel hb))
  clear hc hk hu
  cases hr : rightS cols key uq
  all_goals
    rw [hr] at HRI
    clear hr
    go_enter Tryz.func25, Tryz.ntmps25
    go_wp2_with (go_at_call 60; refine (HRI.out _ (by first | exact Bel.refl w | exact (Bel.refl w).alloc _ | exact ((Bel.refl w).alloc _).alloc _)).mono ?_; rintro e w4 ⟨rfl, hb4⟩)
    go_ret
    exact ⟨rfl, by first | exact hb4 | exact ((Bel.refl w).alloc _).then_ hb4 | exact (((Bel.refl w).alloc _).alloc _).then_ hb4⟩
/-- A list of values lies behind a slice. -/
def ValsAt (w : World) (v : Value) (l : List Val) : Prop := ∃ A c, v = .slice A l.length c ∧ l.length ≤ c ∧ c ≤ maxLen ∧ (0 < l.length → ∃ b off, A = some ⟨b, off, none⟩ ∧ ∀ i (x : Val), l[i]? = some x →
  w.cell? ⟨b, off + i * 4, none⟩ = some (.int .i64 x.k) ∧ w.cell? ⟨b, off + i * 4 + 1, none⟩ = some (.int .i64 x.n) ∧ w.cell? ⟨b, off + i * 4 + 2, none⟩ = some (.int .u64 x.u) ∧ w.cell? ⟨b, off + i * 4 + 3, none⟩ = some (.string x.b))
theorem ValsAt.bel {w w' : World} {v : Value} {l : List Val} (h : ValsAt w v l) (hb : Bel w w') : ValsAt w' v l := by
  obtain ⟨A, c, e, hc, hm, h⟩ := h
  exact ⟨A, c, e, hc, hm, fun hl => by obtain ⟨b, off, ea, hi⟩ := h hl; exact ⟨b, off, ea, fun i x hx => ⟨hb.c (hi i x hx).1, hb.c (hi i x hx).2.1, hb.c (hi i x hx).2.2.1, hb.c (hi i x hx).2.2.2⟩⟩⟩
def firstNZ (f : Nat → Int) : Nat → Nat → Int
  | _, 0 => 0
  | i, n + 1 => if f i ≠ 0 then f i else firstNZ f (i + 1) n
theorem firstNZ_hit (f : Nat → Int) (k : Nat) (hk : f k ≠ 0) : ∀ n i, i ≤ k → k < i + n → (∀ j, i ≤ j → j < k → f j = 0) → firstNZ f i n = f k
  | 0, i, h1, h2, h => by omega
  | n + 1, i, h1, h2, h => by
    unfold firstNZ
    by_cases e : i = k
    · subst e; rw [if_pos hk]
    · rw [if_neg (by rw [h i (Nat.le_refl _) (by omega)]; simp)]
      exact firstNZ_hit f k hk n (i + 1) (by omega) (by omega) (fun j h3 h4 => h j (by omega) h4)
theorem firstNZ_none (f : Nat → Int) : ∀ n i, (∀ j, i ≤ j → j < i + n → f j = 0) → firstNZ f i n = 0
  | 0, i, h => rfl
  | n + 1, i, h => by
    unfold firstNZ
    rw [if_neg (by rw [h i (Nat.le_refl _) (by omega)]; simp)]
    exact firstNZ_none f n (i + 1) (fun j h3 h4 => h j (by omega) (by omega))
def fitAt (cols : List Col) (l : List Val) (i : Nat) : Int := match cols[i]?, l[i]? with
  | some c, some x => fitsI c x
  | _, _ => 0
def rowI (cols : List Col) (l : List Val) : Int := if l.length ≠ cols.length then 130 else firstNZ (fitAt cols l) 0 l.length
end Go.Proofs.YtkklmflclmgjeaaGreatDoor
