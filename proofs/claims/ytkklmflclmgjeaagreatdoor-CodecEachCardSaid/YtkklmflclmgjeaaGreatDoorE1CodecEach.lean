/-
  What CodecEach reaches beside the base.
-/
import Derived.Test.YtkklmflclmgjeaaGreatDoorP5
import Derived.Deep.RegionHeld3
/-
  A region whose stores, at its end, turn what its loads read; and two rows that grow side by side.
-/
set_option linter.unusedVariables false
set_option linter.unusedSimpArgs false
set_option linter.unusedVariables false
set_option linter.unusedSimpArgs false
namespace Go.Proofs.YtkklmflclmgjeaaGreatDoor
open Go.RowKit Go.Shelf Go.Lib

section
variable {P : Program} {ops : Array Oper} {Q : Exit → Act → World → Prop} {md : Region.Mode} {I : Array Bool → World → Prop}
/-- Whatever order is picked; behind each operation I holds of what has come up, and of the world. -/
def wpAnyK (P : Program) (md : Region.Mode) (ops : Array Oper) (Q : Exit → Act → World → Prop) (I : Array Bool → World → Prop) : Nat → Array Bool → Act → World → Prop
  | 0, listed, a, w => Region.ready md ops listed = [] ∧ Q .normal a w
  | fuel + 1, listed, a, w => (Region.ready md ops listed = [] → Q .normal a w) ∧
      ∀ i ∈ Region.ready md ops listed, wpOp P ops Q i (fun a' w' => I (listed.setIfInBounds i true) w' ∧ wpAnyK P md ops Q I fuel (listed.setIfInBounds i true) a' w') a w
theorem wpAny_of_kept : ∀ (fuel : Nat) (listed : Array Bool) (a : Act) (w : World), wpAnyK P md ops Q I fuel listed a w → wpAny P md ops Q fuel listed a w
  | 0, _, _, _, h => h
  | fuel + 1, _, _, _, h => ⟨h.1, fun i hi => wpOp_mono (fun a' w' h' => wpAny_of_kept fuel _ a' w' h'.2) (h.2 i hi)⟩
/-- An operation is taken first whose value hangs on what only one later operation turns, one that waits for it. -/
theorem wpAnyK_first {i late : Nat} {oi ol : Oper} {v : Value} {S : World → Prop} (hi : ops[i]? = some oi) (hsel : ∀ (j : Nat) (o : Oper) cs b, ops[j]? = some o → o.op ≠ .select cs b)
    (hQ : ∀ c a w, Q (.panic c) (a.put oi.dst v) w → Q (.panic c) a w) (hol : ops[late]? = some ol) (hlate : ∃ e ∈ ol.after, Region.binds md e = true ∧ e.on = i)
    (hIS : ∀ listed w, listed.getD late true = false → I listed w → S w) (hIi : ∀ listed w, I (listed.setIfInBounds i true) w ↔ I listed w) :
    ∀ (fuel : Nat) (listed : Array Bool) (a : Act) (w : World),
      (∀ j oj, ops[j]? = some oj → j ≠ i → listed.getD j true = false → (∀ e ∈ oj.after, Region.binds md e = true → e.on ≠ i) → oi.apart ops oj = true) →
      i ∈ Region.ready md ops listed → listed.getD late true = false → YieldsIf P ops S oi v a → I listed w →
      wpAnyK P md ops Q I fuel (listed.setIfInBounds i true) (a.put oi.dst v) w → wpAnyK P md ops Q I (fuel + 1) listed a w := by
  intro fuel
  induction fuel with
  | zero =>
    intro listed a w _ hr hl hy hI H
    refine ⟨fun h => (by rw [h] at hr; cases hr), fun j hj => ?_⟩
    by_cases hji : j = i
    · subst hji; exact hy.wpOp hi (hIS _ _ hl hI) ⟨(hIi _ _).2 hI, H⟩
    · have hm := ready_mono hj hji
      rw [H.1] at hm
      cases hm
  | succ fuel ih =>
    intro listed a w hfree hr hl hy hI H
    refine ⟨fun h => (by rw [h] at hr; cases hr), fun j hj => ?_⟩
    by_cases hji : j = i
    · subst hji; exact hy.wpOp hi (hIS _ _ hl hI) ⟨(hIi _ _).2 hI, H⟩
    · have h1 := H.2 j (ready_mono hj hji)
      obtain ⟨hjun, oj, hoj, hall⟩ := mem_ready.1 hj
      have hnot : ∀ e ∈ oj.after, Region.binds md e = true → e.on ≠ i := fun e he hb heq => by
        have g1 := hall e he hb
        have g0 := (mem_ready.1 hr).1
        rw [heq] at g1
        rcases Nat.lt_or_ge i listed.size with h' | h'
        · simp [h'] at g0 g1; rw [g0] at g1; cases g1
        · simp [Array.getElem?_eq_none h'] at g1
      have hjl : j ≠ late := fun e => by
        subst e
        obtain rfl : oj = ol := Option.some.inj (hoj.symm.trans hol)
        obtain ⟨e, he, hb, heq⟩ := hlate
        exact hnot e he hb heq
      have h2 := wpOp_putIf hoj (hfree j oj hoj hji hjun hnot) (fun cs b => hsel i oi cs b hi) (fun cs b => hsel j oj cs b hoj) hQ hy h1
      have hfree' : ∀ k ok, ops[k]? = some ok → k ≠ i → (listed.setIfInBounds j true).getD k true = false → (∀ e ∈ ok.after, Region.binds md e = true → e.on ≠ i) → oi.apart ops ok = true := fun k ok hk hki hun hno => by
        refine hfree k ok hk hki ?_ hno
        by_cases hjk : j = k
        · subst hjk; exact hjun
        · rw [getD_set_ne true hjk] at hun; exact hun
      refine wpOp_mono (fun a' w' h3 => ?_) h2
      have hI' : I (listed.setIfInBounds j true) w' := by
        refine (hIi _ _).1 ?_
        rw [Array.setIfInBounds_comm _ _ hji]
        exact h3.2.1
      refine ⟨hI', ih (listed.setIfInBounds j true) a' w' hfree' (ready_mono hr (Ne.symm hji)) (by rw [getD_set_ne true hjl]; exact hl) h3.1 hI' ?_⟩
      rw [Array.setIfInBounds_comm _ _ hji]
      exact h3.2.2
def lateOn (md : Region.Mode) (ops : Array Oper) (late i : Nat) : Bool := match ops[late]? with
  | some o => o.after.any fun e => Region.binds md e && e.on == i
  | none => false
theorem wpAnyK_take {i : Nat} (late : Nat) {oi : Oper} {v : Value} {S : World → Prop} {fuel : Nat} {listed : Array Bool} {a : Act} {w : World} (hi : ops[i]? = some oi)
    (hs : Region.noSelect ops = true) (hf : Region.free md ops listed i = true) (hr : (Region.ready md ops listed).contains i = true) (hl : lateOn md ops late i = true) (hln : listed.getD late true = false)
    (hQ : ∀ c a w, Q (.panic c) (a.put oi.dst v) w → Q (.panic c) a w) (hIS : ∀ listed w, listed.getD late true = false → I listed w → S w) (hIi : ∀ listed w, I (listed.setIfInBounds i true) w ↔ I listed w)
    (hy : YieldsIf P ops S oi v a) (hI : I listed w) (h : wpAnyK P md ops Q I fuel (listed.setIfInBounds i true) (a.put oi.dst v) w) : wpAnyK P md ops Q I (fuel + 1) listed a w := by
  unfold lateOn at hl
  cases ho : ops[late]? with
  | none => rw [ho] at hl; cases hl
  | some ol =>
    rw [ho] at hl
    obtain ⟨e, he, hp⟩ := Array.any_eq_true'.1 hl
    rw [Bool.and_eq_true] at hp
    exact wpAnyK_first hi (Region.noSelect_spec hs) hQ ho ⟨e, he, hp.1, eq_of_beq hp.2⟩ hIS hIi fuel listed a w (Region.free_spec hi hf) (by simpa using hr) hln hy hI h
def AllReadyK (P : Program) (md : Region.Mode) (ops : Array Oper) (Q : Exit → Act → World → Prop) (I : Array Bool → World → Prop) (fuel : Nat) (listed : Array Bool) (a : Act) (w : World) (rs : List Nat) : Prop :=
  ∀ i ∈ rs, wpOp P ops Q i (fun a' w' => I (listed.setIfInBounds i true) w' ∧ wpAnyK P md ops Q I fuel (listed.setIfInBounds i true) a' w') a w
theorem AllReadyK.nil {fuel : Nat} {listed : Array Bool} {a : Act} {w : World} : AllReadyK P md ops Q I fuel listed a w [] := fun _ h => by cases h
theorem AllReadyK.cons {fuel : Nat} {listed : Array Bool} {a : Act} {w : World} {i : Nat} {o : Oper} {rs : List Nat} (ho : ops[i]? = some o)
    (h : ∀ K' : Act → World → Prop, Shut (∀ a w, I (listed.setIfInBounds i true) w → wpAnyK P md ops Q I fuel (listed.setIfInBounds i true) a w → K' a w) → if Region.wanted o (yielded ops a.tmps) = true then Oper.wp P o a w K' Q else K' (a.put o.dst undef) w)
    (hs : AllReadyK P md ops Q I fuel listed a w rs) : AllReadyK P md ops Q I fuel listed a w (i :: rs) := fun j hj => by
  rcases List.mem_cons.1 hj with rfl | hj
  · exact wpOp_step ho (fun K' hK => h K' (fun a w hS hW => hK a w ⟨hS, hW⟩))
  · exact hs j hj
theorem wpAnyK_ready {rs : List Nat} {fuel : Nat} {listed : Array Bool} {a : Act} {w : World} (hr : Region.ready md ops listed = rs) (hne : rs ≠ []) (h : AllReadyK P md ops Q I fuel listed a w rs) : wpAnyK P md ops Q I (fuel + 1) listed a w :=
  ⟨fun h0 => absurd (hr ▸ h0) hne, hr ▸ h⟩
theorem wpAnyK_done {listed : Array Bool} {a : Act} {w : World} (hr : Region.ready md ops listed = []) (h : Q .normal a w) : ∀ fuel, wpAnyK P md ops Q I fuel listed a w
  | 0 => ⟨hr, h⟩
  | _ + 1 => ⟨fun _ => h, by rw [hr]; simp⟩
theorem wp_region_kept {id : Nat} {a : Act} {w : World} (hm : P.follows .mixedOrders = true) (h : wpAnyK P .any ops Q I ops.size (Array.replicate ops.size false) a w.drew) : (Code.region id ops true).wp P Q a w :=
  wp_region_any hm (wpAny_of_kept _ _ _ _ h)
end

theorem kinfoVs : (Tryz.prog.info? 27).map (fun i => (i.zero, i.size, i.bytes)) = some (some (.slice none 0 0), 1, 24) := by kernel_rfl
theorem kinfoI : (Tryz.prog.info? 3).map (fun i => (i.zero, i.size, i.bytes)) = some (some (.int .i64 0), 1, 8) := by kernel_rfl
/-- A row of another type is kept where a row grows. -/
theorem own_keep {V V' : World} {b1 b2 : Nat} {T1 T2 : TypeId} {s1 s2 : Nat} {v1 v2 : Value} {n1 n2 : Nat} {xs1 xs2 : List Value} (h1 : V.ownsRow b1 T1 s1 v1 n1 xs1) (h2 : V.ownsRow b2 T2 s2 v2 n2 xs2) (hT : T1 ≠ T2) (hg : V.grownBy V' v1.ownBlock) : V'.ownsRow b2 T2 s2 v2 n2 xs2 := by
  refine ⟨h2.1, ?_⟩
  rcases h2.2 with h | ⟨g, cap, cur, hv, hgb, hh, r⟩
  · exact .inl h
  · refine .inr ⟨g, cap, cur, hv, hgb, (hg.block g (Array.getElem?_eq_some_iff.1 hh).1 (fun e => ?_)).trans hh, r⟩
    rcases h1.2 with ⟨h, -⟩ | ⟨g1, cap1, cur1, hv1, hgb1, hh1, -⟩
    · rw [h] at e; cases e
    · rw [hv1] at e
      have e := Option.some.inj e
      dsimp only at e
      subst e
      rw [hh1] at hh
      injection hh with e2
      injection e2 with e3 e4
      exact hT e4
theorem blk_keep {V V' : World} {b1 : Nat} {T1 T2 : TypeId} {s1 : Nat} {v1 : Value} {n1 g : Nat} {xs1 : List Value} {cur : Array Value} {m : Nat × Nat} (h : V.heap[g]? = some (.cells cur T2 m)) (h1 : V.ownsRow b1 T1 s1 v1 n1 xs1) (hT : T1 ≠ T2) (hg : V.grownBy V' v1.ownBlock) : V'.heap[g]? = some (.cells cur T2 m) := by
  refine (hg.block g (Array.getElem?_eq_some_iff.1 h).1 (fun e => ?_)).trans h
  rcases h1.2 with ⟨h, -⟩ | ⟨g1, cap1, cur1, hv1, hgb1, hh1, -⟩
  · rw [h] at e; cases e
  · rw [hv1] at e
    have e := Option.some.inj e
    dsimp only at e
    subst e
    rw [hh1] at h
    injection h with e2
    injection e2 with e3 e4
    exact hT e4
theorem reads_blk {V : World} {g : Nat} {T : TypeId} {u : Value} {m : Nat × Nat} (h : V.heap[g]? = some (.cells #[u] T m)) : Reads V V.heap.size 1 (some ⟨g, 0, none⟩) 1 [u] := by
  refine ⟨rfl, fun _ => ⟨_, rfl, (Array.getElem?_eq_some_iff.1 h).1, fun j x hx => ?_⟩⟩
  have hj : j = 0 := by have := (List.getElem?_eq_some_iff.1 hx).1; simp at this; omega
  subst hj
  simp at hx
  subst hx
  rw [add_free]
  simp [World.cell?, h]
/-- The rows so far, each in memory of its own kind. -/
def Rows2 (n : Nat) (V : World) (us : List Value) (rows : List (List Val)) : Prop := us.length = rows.length ∧ ∀ (j : Nat) (u : Value) (l : List Val), us[j]? = some u → rows[j]? = some l → ∃ b, n ≤ b ∧ V.ownsRow b 48 4 u l.length (vrows l)
def ints (l : List Nat) : List Value := l.map fun (p : Nat) => Value.int .i64 (p : Int)
/-- Two boxed lists that grow side by side (what the boxes hold; the lists as they are), and a row that is put behind the second one. -/
def Two (w4 : World) (va vw vA vW u : Value) (LA : List Nat) (LW : List (List Val)) (us : List Value) (l : List Val) (V : World) : Prop :=
  (Bel w4 V ∧ (V.cell? ⟨w4.heap.size, 0, none⟩ = some va ∧ V.frozen? ⟨w4.heap.size, 0, none⟩ = false) ∧ V.cell? ⟨w4.heap.size + 1, 0, none⟩ = some vw ∧ V.frozen? ⟨w4.heap.size + 1, 0, none⟩ = false) ∧
  V.ownsRow (w4.heap.size + 2) 3 1 vA LA.length (ints LA) ∧ V.ownsRow (w4.heap.size + 2) 27 1 vW LW.length us ∧ Rows2 (w4.heap.size + 2) V us LW ∧ ∃ b, w4.heap.size + 2 ≤ b ∧ V.ownsRow b 48 4 u l.length (vrows l)
theorem Two.bel {w4 V V' : World} {va vw vA vW u : Value} {LA : List Nat} {LW : List (List Val)} {us : List Value} {l : List Val} (h : Two w4 va vw vA vW u LA LW us l V) (hb : Bel V V') : Two w4 va vw vA vW u LA LW us l V' := by
  obtain ⟨⟨h1, ⟨h2, h3⟩, h4, h5⟩, h6, h7, ⟨h8, h9⟩, b, hb0, h10⟩ := h
  exact ⟨⟨h1.then_ hb, ⟨hb.c h2, hb.f h2 h3⟩, hb.c h4, hb.f h4 h5⟩, ownsRow_bel h6 hb, ownsRow_bel h7 hb, ⟨h8, fun j u l hu hl => by obtain ⟨b, hb1, h⟩ := h9 j u l hu hl; exact ⟨b, hb1, ownsRow_bel h hb⟩⟩, b, hb0, ownsRow_bel h10 hb⟩
theorem own_ge {V : World} {b1 : Nat} {T1 : TypeId} {s1 : Nat} {v1 : Value} {n1 : Nat} {xs1 : List Value} (h : V.ownsRow b1 T1 s1 v1 n1 xs1) (j : Nat) (e : v1.ownBlock = some j) : b1 ≤ j := by
  rcases h.2 with ⟨rfl, -⟩ | ⟨g1, cap1, cur1, rfl, hgb1, -⟩
  · cases e
  · have e := Option.some.inj e
    dsimp only at e
    omega
theorem two_base {w4 V V' : World} {va vw v : Value} (h : Bel w4 V ∧ (V.cell? ⟨w4.heap.size, 0, none⟩ = some va ∧ V.frozen? ⟨w4.heap.size, 0, none⟩ = false) ∧ V.cell? ⟨w4.heap.size + 1, 0, none⟩ = some vw ∧ V.frozen? ⟨w4.heap.size + 1, 0, none⟩ = false) (hge : ∀ j, v.ownBlock = some j → w4.heap.size + 2 ≤ j) (hg : V.grownBy V' v.ownBlock) :
    Bel w4 V' ∧ (V'.cell? ⟨w4.heap.size, 0, none⟩ = some va ∧ V'.frozen? ⟨w4.heap.size, 0, none⟩ = false) ∧ V'.cell? ⟨w4.heap.size + 1, 0, none⟩ = some vw ∧ V'.frozen? ⟨w4.heap.size + 1, 0, none⟩ = false := by
  obtain ⟨h1, ⟨h2, h3⟩, h4, h5⟩ := h
  have n1 : some w4.heap.size ≠ v.ownBlock := fun e => by have := hge _ e.symm; omega
  have n2 : some (w4.heap.size + 1) ≠ v.ownBlock := fun e => by have := hge _ e.symm; omega
  have k1 := hg.block w4.heap.size (World.block_lt_of_cell? (w := V) (a := ⟨w4.heap.size, 0, none⟩) h2) n1
  have k2 := hg.block (w4.heap.size + 1) (World.block_lt_of_cell? (w := V) (a := ⟨w4.heap.size + 1, 0, none⟩) h4) n2
  exact ⟨Below.grown h1 hg h1.size (fun j e => by have := hge j e; omega), ⟨(World.cell?_of_block k1).trans h2, (World.frozen?_of_block k1).trans h3⟩, (World.cell?_of_block k2).trans h4, (World.frozen?_of_block k2).trans h5⟩
theorem Two.appA {w4 V V' : World} {va vw vA vW u vA' : Value} {LA : List Nat} {LW : List (List Val)} {us : List Value} {l : List Val} {m : Nat} (h : Two w4 va vw vA vW u LA LW us l V) (ho : V'.ownsRow (w4.heap.size + 2) 3 1 vA' (LA.length + 1) (ints LA ++ [.int .i64 m])) (hg : V.grownBy V' vA.ownBlock) : Two w4 va vw vA' vW u (LA ++ [m]) LW us l V' := by
  obtain ⟨h1, h6, h7, ⟨h8, h9⟩, b, hb0, h10⟩ := h
  refine ⟨two_base h1 (own_ge h6) hg, ?_, own_keep h6 h7 (by decide) hg, ⟨h8, fun j u l hu hl => by obtain ⟨b, hb1, h⟩ := h9 j u l hu hl; exact ⟨b, hb1, own_keep h6 h (by decide) hg⟩⟩, b, hb0, own_keep h6 h10 (by decide) hg⟩
  rw [List.length_append]
  unfold ints
  rw [List.map_append]
  exact ho
theorem Two.appW {w4 V V' : World} {va vw vA vW u vW' : Value} {LA : List Nat} {LW : List (List Val)} {us : List Value} {l : List Val} (h : Two w4 va vw vA vW u LA LW us l V) (ho : V'.ownsRow (w4.heap.size + 2) 27 1 vW' (LW.length + 1) (us ++ [u])) (hg : V.grownBy V' vW.ownBlock) : Two w4 va vw vA vW' u LA (LW ++ [l]) (us ++ [u]) l V' := by
  obtain ⟨h1, h6, h7, ⟨h8, h9⟩, b, hb0, h10⟩ := h
  refine ⟨two_base h1 (own_ge h7) hg, own_keep h7 h6 (by decide) hg, by rw [List.length_append]; exact ho, ⟨by rw [List.length_append, List.length_append, h8]; rfl, fun j u' l' hu hl => ?_⟩, b, hb0, own_keep h7 h10 (by decide) hg⟩
  by_cases hj : j < us.length
  · rw [List.getElem?_append_left hj] at hu
    rw [List.getElem?_append_left (by omega)] at hl
    obtain ⟨b, hb1, h⟩ := h9 j u' l' hu hl
    exact ⟨b, hb1, own_keep h7 h (by decide) hg⟩
  · rw [List.getElem?_append_right (by omega)] at hu hl
    have h0 : j - us.length = 0 := by have := (List.getElem?_eq_some_iff.1 hu).1; simp at this; omega
    have h0' : j - LW.length = 0 := by omega
    rw [h0] at hu
    rw [h0'] at hl
    simp at hu hl
    subst hu hl
    exact ⟨b, hb0, own_keep h7 h10 (by decide) hg⟩
theorem Two.store {w4 V : World} {va vw vA vW u : Value} {LA : List Nat} {LW : List (List Val)} {us : List Value} {l : List Val} (h : Two w4 va vw vA vW u LA LW us l V) :
    Two w4 vA vW vA vW (.slice none 0 0) LA LW us [] ((V.setCell ⟨w4.heap.size, 0, none⟩ vA).setCell ⟨w4.heap.size + 1, 0, none⟩ vW) := by
  obtain ⟨⟨h1, ⟨h2, h3⟩, h4, h5⟩, h6, h7, ⟨h8, h9⟩, -⟩ := h
  have g1 : V.grownBy (V.setCell ⟨w4.heap.size, 0, none⟩ vA) (some w4.heap.size) := grown_setCell _ _ _
  have g2 : (V.setCell ⟨w4.heap.size, 0, none⟩ vA).grownBy ((V.setCell ⟨w4.heap.size, 0, none⟩ vA).setCell ⟨w4.heap.size + 1, 0, none⟩ vW) (some (w4.heap.size + 1)) := grown_setCell _ _ _
  refine ⟨⟨(h1.setCell (Nat.le_refl _) _).setCell (Nat.le_succ _) _, ⟨by go_simp, by go_simp⟩, by go_simp, by go_simp⟩, ownsRow_grown (ownsRow_grown h6 g1 (by omega)) g2 (by omega), ownsRow_grown (ownsRow_grown h7 g1 (by omega)) g2 (by omega), ⟨h8, fun j u l hu hl => ?_⟩, w4.heap.size + 2, Nat.le_refl _, World.ownsRow_nil _ _ _ _⟩
  obtain ⟨b, hb1, h⟩ := h9 j u l hu hl
  exact ⟨b, hb1, ownsRow_grown (ownsRow_grown h g1 (by omega)) g2 (by omega)⟩
/-- What stands at a place of both. -/
theorem Two.at_ {w4 V : World} {va vw vA vW u : Value} {L : List (Nat × List Val)} {us : List Value} {l : List Val} (h : Two w4 va vw vA vW u (L.map (·.1)) (L.map (·.2)) us l V) {k i : Nat} {x : List Val} (hk : L[k]? = some (i, x)) :
    ∃ ga ca gw cw y, vA = .slice (some ⟨ga, 0, none⟩) L.length ca ∧ V.cell? ⟨ga, k, none⟩ = some (.int .i64 i) ∧ vW = .slice (some ⟨gw, 0, none⟩) L.length cw ∧ V.cell? ⟨gw, k, none⟩ = some y ∧ ValsAt V y x := by
  obtain ⟨-, h6, h7, ⟨h8, h9⟩, -⟩ := h
  have hlt := (List.getElem?_eq_some_iff.1 hk).1
  rw [List.length_map] at h6 h7 h8
  obtain ⟨ga, ca, hva, -, -⟩ := h6.form (by omega)
  obtain ⟨gw, cw, hvw, -, -⟩ := h7.form (by omega)
  have hi : (ints (L.map (·.1)))[k]? = some (.int .i64 i) := by
    unfold ints
    rw [List.getElem?_map, List.getElem?_map, hk]
    rfl
  obtain ⟨y, hy⟩ : ∃ y, us[k]? = some y := ⟨_, List.getElem?_eq_getElem (by omega)⟩
  have c1 := h6.cells (g := ga) (by rw [hva]; rfl) k _ hi
  have c2 := h7.cells (g := gw) (by rw [hvw]; rfl) k _ hy
  rw [Addr.add_lit, Nat.zero_add] at c1 c2
  obtain ⟨b, -, ho⟩ := h9 k y x hy (by rw [List.getElem?_map, hk]; rfl)
  exact ⟨ga, ca, gw, cw, y, hva, c1, hvw, c2, ValsAt.of_own ho rfl⟩
end Go.Proofs.YtkklmflclmgjeaaGreatDoor

/-
  A range over a function or a method value that goes over a known list, whose arguments are known as they come: SeqR, wpIn_seqr, wp_seqr (as Seq's, but the handed arguments need not be known beforehand, and the function may be bound to a receiver).
-/
set_option linter.unusedVariables false
set_option linter.unusedSimpArgs false
set_option linter.unusedVariables false
set_option linter.unusedSimpArgs false
namespace Go.Proofs.YtkklmflclmgjeaaGreatDoor
open Go.RowKit Go.Shelf

/-- From A to B nothing below n₀ has turned, and nothing from n₁ on that was there. -/
structure Own (n₀ n₁ : Nat) (A B : World) : Prop where
  below : Below n₀ A B
  keep : ∀ k, n₁ ≤ k → k < A.heap.size → B.heap[k]? = A.heap[k]?
theorem Own.refl (n₀ n₁ : Nat) (w : World) : Own n₀ n₁ w w := ⟨Below.refl _ _, fun _ _ _ => rfl⟩
theorem Own.trans {n₀ n₁ : Nat} {A B C : World} (h : Own n₀ n₁ A B) (k : Own n₀ n₁ B C) : Own n₀ n₁ A C :=
  ⟨h.below.trans k.below, fun j h1 h2 => (k.keep j h1 (Nat.lt_of_lt_of_le h2 h.below.size)).trans (h.keep j h1 h2)⟩
theorem Own.of_bel {n₀ n₁ : Nat} {A B : World} (hn : n₀ ≤ A.heap.size) (h : Bel A B) : Own n₀ n₁ A B := ⟨Below.mono h hn, fun k _ hk => h.block k hk⟩
def SeqR {α : Type} (F : Fence) (n : Nat) (P : Program) (gf : Nat) (bd lb : Array Value) (E : α × Array Value → World → Prop) (n₀ : Nat) (xs : List α) (w0 : World) : Prop :=
  ∀ (l : Nat) (J Jx : List α → World → Prop) (W : World), Below n₀ w0 W → (∀ s A B, J s A → Bel A B → J s B) →
    (∀ pre x vs rest W1, xs = pre ++ x :: rest → J pre W1 → E (x, vs) W1 → YieldAt F (n - 1) P l vs W1 fun e W' =>
      (e = .returned (.bool true) ∧ J (pre ++ [x]) W' ∧ Own n₀ W.heap.size W1 W') ∨ (e = .returned (.bool false) ∧ Jx (pre ++ [x]) W')) →
    J [] W →
    CallsIn F n P gf (bd ++ #[.func (.yield l) #[] #[]] ++ lb) W fun e W' => (∃ v, e = .returned v) ∧ (J xs W' ∨ ∃ pre x rest, xs = pre ++ x :: rest ∧ Jx (pre ++ [x]) W')

variable {F : Fence} {n : Nat} {P : Program}

theorem wpIn_seqr {α : Type} {g : Operand} {ps : Array Tmp} {assign body : Code} {Q : Exit → Act → World → Prop} {a : Act} {w : World}
    (hro : F.round = none) (h1 : 1 ≤ n) {gf : Nat} {bd lb : Array Value} (hg : a.eval g = .func (.func gf) bd lb) (hFg : F.fn gf) (eg : ∀ args w, (callFunc gf args).run P w = .ok (.enter gf args) w)
    {E : α × Array Value → World → Prop} {n₀ : Nat} {xs : List α} {w0 : World} (hseq : SeqR F (n - 1) P gf bd lb E n₀ xs w0) (hn0 : n₀ ≤ w.heap.size) (hb0 : Below n₀ w0 w) (hps : ∀ x vs W, E (x, vs) W → vs.size = ps.size)
    (I : List α → World → Prop) (Ix : Code → List α → World → Prop) (hI : OwnFrom w.heap.size I) (hIx : ∀ c, OwnFrom w.heap.size (Ix c)) (hE : OwnFrom w.heap.size E) (h0 : I [] w)
    (Ax : α → Array Value → Act → World → Prop) (hAx : ∀ x vs a', OwnFrom w.heap.size (fun (_ : Unit) W => Ax x vs a' W))
    (hassign : ∀ (l : Nat) (pre : List α) (x : α) (vs : Array Value) (W : World) (K : Act → World → Prop), I pre W → E (x, vs) W → w.heap.size ≤ W.heap.size → (∀ a' W', KeepsFrom w.heap.size W W' → Own n₀ (w.heap.size + 2) W W' → I pre W' → E (x, vs) W' → Ax x vs a' W' → K a' W') →
      assign.wpIn (F.inRound l) (n - 1 - 1) P (Exit.then K (fun _ _ _ => False)) { tmps := (ps.zip vs).foldl (fun t (p, v) => t.setIfInBounds p v) a.tmps, defers := [] } W)
    (hbody : ∀ (l : Nat) (pre : List α) (x : α) (vs : Array Value) (rest : List α) (a' : Act) (W : World), xs = pre ++ x :: rest → w.heap.size ≤ l → (∃ r, W.heap[l]? = some (.loop r)) → I pre W → E (x, vs) W → Ax x vs a' W →
      body.wpIn (F.inRound l) (n - 1 - 1) P (ownPostG w.heap.size (Own n₀ (w.heap.size + 2)) I Ix (pre ++ [x]) W) a' W)
    (hdone : ∀ (D : Nat) (W : World), w.heap.size ≤ D → I xs W → W.heap[D]? = some (.deferred (some [])) → Q .normal { a with defers := { target := .collected D, args := #[] } :: a.defers } W)
    (hstop : ∀ (D : Nat) (c : Code) (pre : List α) (x : α) (rest : List α) (W : World), w.heap.size ≤ D → xs = pre ++ x :: rest → Ix c (pre ++ [x]) W → W.heap[D]? = some (.deferred (some [])) →
      c.wpIn F n P Q { a with defers := { target := .collected D, args := #[] } :: a.defers } W) :
    (Code.rangeFunc g ps assign body).wpIn F n P Q a w := by
  refine wpIn_rangeFunc fun fn hfn => ?_
  rw [hro]
  -- the record of the loop, and the block of the rounds' deferred calls
  generalize hR : (fun st pe => ({ state := st, pending := pe, fn, tmps := a.tmps, params := ps, assign, body, defers := w.heap.size } : Loop)) = R
  have hR' : ∀ st pe, R st pe = { state := st, pending := pe, fn, tmps := a.tmps, params := ps, assign, body, defers := w.heap.size } := fun st pe => by rw [← hR]
  let W1 := (w.alloc (.deferred (some []))).alloc (.loop (R .ready none))
  let Fine : Obj → World → Prop := fun o W => W.heap[w.heap.size + 1]? = some o ∧ W.heap[w.heap.size]? = some (.deferred (some []))
  have hs1 : W1.heap.size = w.heap.size + 2 := by simp [W1]
  have hF1 : Fine (.loop (R .ready none)) W1 := by
    refine ⟨?_, ?_⟩
    · have := World.alloc_heap_new (w.alloc (.deferred (some []))) (.loop (R .ready none))
      rwa [World.size_alloc] at this
    · exact (Below.heap_alloc _ _ _ (by simp)).trans (World.alloc_heap_new w _)
  have hI1 : I [] W1 := hI.alloc _ (hI.alloc _ h0)
  have hb1 : Below n₀ w0 W1 := hb0.trans (((Below.refl _ w).alloc hn0 _).alloc (by simp; omega) _)
  have hFk : ∀ {o : Obj} {A B : World}, Fine o A → KeepsFrom w.heap.size A B → o.isCells = false → Fine o B := fun h k ho => ⟨k.same _ _ (by omega) h.1 ho, k.same _ _ (Nat.le_refl _) h.2 rfl⟩
  have hFp : ∀ {o o' : Obj} {A : World}, Fine o A → Fine o' (A.putObj (w.heap.size + 1) o') := fun {o o' A} h =>
    ⟨World.putObj_heap_same (Array.getElem?_eq_some_iff.1 h.1).1, (World.putObj_heap_other (by omega)).trans h.2⟩
  have hBp : ∀ {A : World} {o : Obj}, w.heap.size ≤ A.heap.size → Own n₀ (w.heap.size + 2) A (A.putObj (w.heap.size + 1) o) := fun {A o} hA =>
    ⟨(Below.refl n₀ A).grown (grownBy_putObj' A _ o) (by omega) (fun k e => by cases e; omega), fun k h1 _ => World.putObj_heap_other (by omega)⟩
  refine ⟨w.heap.size + 1, [{ target := .collected w.heap.size, args := #[] }], W1, { target := .fn (.func gf) lb, args := bd ++ #[.func (.yield (w.heap.size + 1)) #[] #[]] }, W1, gf,
    bd ++ #[.func (.yield (w.heap.size + 1)) #[] #[]] ++ lb, W1, ?_, ?_, ?_, ?_, fun _ => h1, ?_⟩
  · have := run_enterLoop_outer (P := P) (w := w) fn a.tmps ps assign body
    rw [this]
    show _ = Result.ok _ ((w.alloc (.deferred (some []))).alloc (.loop (R .ready none)))
    rw [hR']
  · simp only [resolve, hg]
    simp [go_sem]
  · intro f' hf'
    simp [Target.leads] at hf'
    subst hf'
    exact hFg
  · simp [invoke, go_sem, eg]
  · refine (hseq (w.heap.size + 1) (fun pre W => I pre W ∧ Fine (.loop (R .ready none)) W) (fun pre W => ∃ c, Ix c pre W ∧ Fine (.loop (R .done (some c))) W) W1 hb1 ?_ ?_ ⟨hI1, hF1⟩).mono ?_
    · rintro s A B ⟨hi, hf⟩ hAB
      have hlt : ∀ k o, A.heap[k]? = some o → k < A.heap.size := fun k o h => (Array.getElem?_eq_some_iff.1 h).1
      exact ⟨hI s A B none hi (hAB.grown none) (fun r e => by cases e), (hAB.block _ (hlt _ _ hf.1)).trans hf.1, (hAB.block _ (hlt _ _ hf.2)).trans hf.2⟩
    · -- one round
      rintro pre x vs rest W hxs ⟨hi, hf⟩ hex
      have hy := run_yield (P := P) (args := vs) hf.1 (by rw [hR']; exact hps x vs W hex)
      rw [hR'] at hy
      have hWs : w.heap.size ≤ W.heap.size := by have := (Array.getElem?_eq_some_iff.1 hf.1).1; omega
      refine ⟨fn, _, assign, body, hy, roundIn_of_wpIn hfn (hassign _ pre x vs W _ hi hex hWs ?_)⟩
      clear hy
      intro a' Wa hka hba hia hea hax
      have hfa := hFk hf hka rfl
      have hls : w.heap.size + 1 < Wa.heap.size := (Array.getElem?_eq_some_iff.1 hfa.1).1
      refine ⟨_, run_beginRound hfa.1 (by rw [hR']), ?_⟩
      have hf2 : Fine (.loop { R .ready none with state := .busy }) (Wa.putObj (w.heap.size + 1) (.loop { R .ready none with state := .busy })) := hFp hfa
      refine wpIn_mono (hbody _ pre x vs rest a' _ hxs (by omega) ⟨_, hf2.1⟩ (hI.putObj _ hia (by omega) hfa.1 rfl) (hE.putObj _ hea (by omega) hfa.1 rfl) ((hAx x vs a').putObj (s := ()) _ hax (by omega) hfa.1 rfl)) ?_
      have hends : ∀ (jump : Option Code) (W3 : World), KeepsFrom w.heap.size (Wa.putObj (w.heap.size + 1) (.loop { R .ready none with state := .busy })) W3 →
          (Instr.endRound (w.heap.size + 1) jump).run P W3 = .ok (.bool jump.isNone) (W3.putObj (w.heap.size + 1) (.loop (R (if jump.isNone then .ready else .done) jump))) ∧
          Fine (.loop { R .ready none with state := .busy }) W3 ∧ Fine (.loop (R (if jump.isNone then .ready else .done) jump)) (W3.putObj (w.heap.size + 1) (.loop (R (if jump.isNone then .ready else .done) jump))) := fun jump W3 hk3 => by
        have hf3 := hFk hf2 hk3 rfl
        have := run_endRound (P := P) jump hf3.1
        rw [hR'] at this
        refine ⟨?_, hf3, hFp hf3⟩
        rw [this, hR']
      rintro e a3 W3 hp
      cases e with
      | normal =>
        obtain ⟨hk3, hb3, hi3⟩ := hp
        obtain ⟨hr, hf3, hf4⟩ := hends none W3 hk3
        have h3s : w.heap.size ≤ W3.heap.size := by have := (Array.getElem?_eq_some_iff.1 hf3.1).1; omega
        exact ⟨_, _, hr, .inl ⟨rfl, ⟨hI.putObj _ hi3 (by omega) hf3.1 rfl, hf4⟩, by rw [hs1]; exact ((hba.trans (hBp (by omega))).trans hb3).trans (hBp h3s)⟩⟩
      | ret =>
        obtain ⟨hk3, hi3⟩ := hp
        obtain ⟨hr, hf3, hf4⟩ := hends (some .ret) W3 hk3
        exact ⟨_, _, hr, .inr ⟨rfl, .ret, (hIx _).putObj _ hi3 (by omega) hf3.1 rfl, hf4⟩⟩
      | exit id =>
        obtain ⟨hk3, hi3⟩ := hp
        obtain ⟨hr, hf3, hf4⟩ := hends (some (.exit id)) W3 hk3
        exact ⟨_, _, hr, .inr ⟨rfl, .exit id, (hIx _).putObj _ hi3 (by omega) hf3.1 rfl, hf4⟩⟩
      | goto t =>
        obtain ⟨hk3, hi3⟩ := hp
        obtain ⟨hr, hf3, hf4⟩ := hends (some (.goto t)) W3 hk3
        exact ⟨_, _, hr, .inr ⟨rfl, .goto t, (hIx _).putObj _ hi3 (by omega) hf3.1 rfl, hf4⟩⟩
      | panic ch => exact hp.elim
      | outgrown => exact hp.elim
    · -- behind the iterator
      rintro e W2 ⟨⟨v, rfl⟩, (⟨hi, hf⟩ | ⟨pre, x, rest, hxs, c, hi, hf⟩)⟩
      · have hr := run_endLoop (P := P) hf.1 (by rw [hR']; simp)
        rw [hR'] at hr
        exact ⟨none, _, hr, hdone _ _ (Nat.le_refl _) (hI.putObj _ hi (by omega) hf.1 rfl) ((World.putObj_heap_other (by omega)).trans hf.2)⟩
      · have hr := run_endLoop (P := P) hf.1 (by rw [hR']; simp)
        rw [hR'] at hr
        exact ⟨some c, _, hr, hstop _ c pre x rest _ (Nat.le_refl _) hxs ((hIx c).putObj _ hi (by omega) hf.1 rfl) ((World.putObj_heap_other (by omega)).trans hf.2)⟩

theorem wp_seqr {P : Program} {α : Type} {g : Operand} {ps : Array Tmp} {assign body : Code} {Q : Exit → Act → World → Prop} {a : Act} {w : World} (n : Nat)
    (h1 : 1 ≤ n) {gf : Nat} {bd lb : Array Value} (hg : a.eval g = .func (.func gf) bd lb) (eg : ∀ args w, (callFunc gf args).run P w = .ok (.enter gf args) w)
    {E : α × Array Value → World → Prop} {n₀ : Nat} {xs : List α} {w0 : World} (hseq : SeqR Fence.wide (n - 1) P gf bd lb E n₀ xs w0) (hn0 : n₀ ≤ w.heap.size) (hb0 : Below n₀ w0 w) (hps : ∀ x vs W, E (x, vs) W → vs.size = ps.size)
    (I : List α → World → Prop) (Ix : Code → List α → World → Prop) (hI : OwnFrom w.heap.size I) (hIx : ∀ c, OwnFrom w.heap.size (Ix c)) (hE : OwnFrom w.heap.size E) (h0 : I [] w) (a₁ : α → Array Value → Act)
    (hassign : ∀ (l : Nat) (x : α) (vs : Array Value) (W : World) (K : Act → World → Prop), E (x, vs) W → K (a₁ x vs) W →
      assign.wpIn (Fence.wide.inRound l) (n - 1 - 1) P (Exit.then K (fun _ _ _ => False)) { tmps := (ps.zip vs).foldl (fun t (p, v) => t.setIfInBounds p v) a.tmps, defers := [] } W)
    (hbody : ∀ (l : Nat) (pre : List α) (x : α) (vs : Array Value) (rest : List α) (W : World), xs = pre ++ x :: rest → w.heap.size ≤ l → (∃ r, W.heap[l]? = some (.loop r)) → I pre W → E (x, vs) W →
      body.wpIn (Fence.wide.inRound l) (n - 1 - 1) P (ownPostG w.heap.size (Own n₀ (w.heap.size + 2)) I Ix (pre ++ [x]) W) (a₁ x vs) W)
    (hdone : ∀ (D : Nat) (W : World), w.heap.size ≤ D → I xs W → W.heap[D]? = some (.deferred (some [])) → Q .normal { a with defers := { target := .collected D, args := #[] } :: a.defers } W)
    (hstop : ∀ (D : Nat) (c : Code) (pre : List α) (x : α) (rest : List α) (W : World), w.heap.size ≤ D → xs = pre ++ x :: rest → Ix c (pre ++ [x]) W → W.heap[D]? = some (.deferred (some [])) →
      c.wp P Q { a with defers := { target := .collected D, args := #[] } :: a.defers } W) :
    (Code.rangeFunc g ps assign body).wp P Q a w :=
  wpIn_wide.1 (wpIn_seqr (n := n) rfl h1 hg trivial eg hseq hn0 hb0 hps I Ix hI hIx hE h0 (fun x vs a' _ => a' = a₁ x vs) (fun _ _ _ _ _ _ _ hs _ _ => hs)
    (fun l pre x vs W K hi he hs hK => hassign l x vs W K he (hK _ _ (KeepsFrom.refl _ _) (Own.refl _ _ _) hi he rfl))
    (fun l pre x vs rest a' W hxs hl hr hi he ha => by subst ha; exact hbody l pre x vs rest W hxs hl hr hi he)
    hdone (fun D c pre x rest W hD hxs hi hK => wpIn_wide.2 (hstop D c pre x rest W hD hxs hi hK)))

/-- The same, a round walked at one go: its assignment, then (in the world in which the round has begun) its body. -/
theorem wp_seqr_round {P : Program} {α : Type} {g : Operand} {ps : Array Tmp} {assign body : Code} {Q : Exit → Act → World → Prop} {a : Act} {w : World} (n : Nat)
    (h1 : 1 ≤ n) {gf : Nat} {bd lb : Array Value} (hg : a.eval g = .func (.func gf) bd lb) (eg : ∀ args w, (callFunc gf args).run P w = .ok (.enter gf args) w)
    {E : α × Array Value → World → Prop} {n₀ : Nat} {xs : List α} {w0 : World} (hseq : SeqR Fence.wide (n - 1) P gf bd lb E n₀ xs w0) (hn0 : n₀ ≤ w.heap.size) (hb0 : Below n₀ w0 w) (hps : ∀ x vs W, E (x, vs) W → vs.size = ps.size)
    (I : List α → World → Prop) (Ix : Code → List α → World → Prop) (hI : OwnFrom w.heap.size I) (hIx : ∀ c, OwnFrom w.heap.size (Ix c)) (hE : OwnFrom w.heap.size E) (h0 : I [] w)
    (hround : ∀ (l : Nat) (x : α) (vs : Array Value) (W : World), E (x, vs) W →
      assign.wpIn (Fence.wide.inRound l) (n - 1 - 1) P (Exit.then (fun a' Wa => Wa = W ∧ ∀ (l : Nat) (pre rest : List α) (Wb : World), xs = pre ++ x :: rest → w.heap.size ≤ l → (∃ r, Wb.heap[l]? = some (.loop r)) → I pre Wb → E (x, vs) Wb →
        body.wpIn (Fence.wide.inRound l) (n - 1 - 1) P (ownPostG w.heap.size (Own n₀ (w.heap.size + 2)) I Ix (pre ++ [x]) Wb) a' Wb) (fun _ _ _ => False)) { tmps := (ps.zip vs).foldl (fun t (p, v) => t.setIfInBounds p v) a.tmps, defers := [] } W)
    (hdone : ∀ (D : Nat) (W : World), w.heap.size ≤ D → I xs W → W.heap[D]? = some (.deferred (some [])) → Q .normal { a with defers := { target := .collected D, args := #[] } :: a.defers } W)
    (hstop : ∀ (D : Nat) (c : Code) (pre : List α) (x : α) (rest : List α) (W : World), w.heap.size ≤ D → xs = pre ++ x :: rest → Ix c (pre ++ [x]) W → W.heap[D]? = some (.deferred (some [])) →
      c.wp P Q { a with defers := { target := .collected D, args := #[] } :: a.defers } W) :
    (Code.rangeFunc g ps assign body).wp P Q a w :=
  wpIn_wide.1 (wpIn_seqr (n := n) rfl h1 hg trivial eg hseq hn0 hb0 hps I Ix hI hIx hE h0
    (fun x vs a' _ => ∀ (l : Nat) (pre rest : List α) (Wb : World), xs = pre ++ x :: rest → w.heap.size ≤ l → (∃ r, Wb.heap[l]? = some (.loop r)) → I pre Wb → E (x, vs) Wb →
        body.wpIn (Fence.wide.inRound l) (n - 1 - 1) P (ownPostG w.heap.size (Own n₀ (w.heap.size + 2)) I Ix (pre ++ [x]) Wb) a' Wb)
    (fun _ _ _ _ _ _ _ hs _ _ => hs)
    (fun l pre x vs W K hi he hs hK => wpIn_mono (hround l x vs W he) (fun e a' Wa hp => by
      cases e with
      | normal => obtain ⟨rfl, hx⟩ := hp; exact hK a' _ (KeepsFrom.refl _ _) (Own.refl _ _ _) hi he hx
      | ret => exact hp
      | exit id => exact hp
      | goto t => exact hp
      | panic ch => exact hp
      | outgrown => exact hp))
    (fun l pre x vs rest a' W hxs hl hr hi he ha => ha l pre rest W hxs hl hr hi he)
    hdone (fun D c pre x rest W hD hxs hi hK => wpIn_wide.2 (hstop D c pre x rest W hD hxs hi hK)))
end Go.Proofs.YtkklmflclmgjeaaGreatDoor

/-
  The codec: rows one behind the other; the program's Each.
-/
set_option linter.unusedVariables false
set_option linter.unusedSimpArgs false
set_option linter.unusedVariables false
set_option linter.unusedSimpArgs false
namespace Go.Proofs.YtkklmflclmgjeaaGreatDoor
open Go.RowKit Go.Shelf Go.Lib
attribute [local go_sem] Oper.semAt_some

/-- The rows of bytes, and where each begins. -/
def eachL (cols : List Col) : Nat → Nat → List UInt8 → List (Nat × List Val)
  | 0, _, _ => []
  | n + 1, i, s => match rdRow cols s with
    | none => []
    | some (l, m) => (i, l) :: eachL cols n (i + m) (s.drop m)
def eachS (cols : List Col) (key : List Int) (uq : List (List Int)) (s : List UInt8) : List (Nat × List Val) := if rightS cols key uq = true then eachL cols (s.length + 1) 0 s else []
/-- How far it has come: what is behind, and what is ahead. -/
def EachAt (cols : List Col) (s : List UInt8) (L pre : List (Nat × List Val)) (i : Nat) : Prop := ∃ f, L = pre ++ eachL cols f i (s.drop i) ∧ s.length - i < f ∧ i ≤ s.length
theorem EachAt.start (cols : List Col) (s : List UInt8) : EachAt cols s (eachL cols (s.length + 1) 0 s) [] 0 := ⟨s.length + 1, rfl, by omega, Nat.zero_le _⟩
theorem EachAt.done {cols : List Col} {s : List UInt8} {L pre : List (Nat × List Val)} {i : Nat} (h : EachAt cols s L pre i) (hn : rdRow cols (s.drop i) = none) : L = pre := by
  obtain ⟨f, e, hf, -⟩ := h
  cases f with
  | zero => omega
  | succ f => rw [e, eachL, hn, List.append_nil]
theorem EachAt.next {cols : List Col} {s : List UInt8} {L pre : List (Nat × List Val)} {i : Nat} (h : EachAt cols s L pre i) (hr : ∀ c ∈ cols, rightB c = true) (h1 : 1 ≤ cols.length) {l : List Val} {m : Nat} (hs : rdRow cols (s.drop i) = some (l, m)) :
    EachAt cols s L (pre ++ [(i, l)]) (i + m) ∧ 1 ≤ m ∧ i + m ≤ s.length ∧ ∃ rest, L = pre ++ (i, l) :: rest := by
  obtain ⟨f, e, hf, hi⟩ := h
  obtain ⟨hm, -, -, -, -, hc⟩ := rdRow_back hr hs
  rw [List.length_drop] at hm
  cases f with
  | zero => omega
  | succ f =>
    rw [eachL, hs] at e
    dsimp only at e
    rw [List.drop_drop] at e
    refine ⟨⟨f, ?_, by omega, by omega⟩, by omega, by omega, _, e⟩
    rw [e, List.append_assoc]
    rfl
theorem rdRow_nil {cols : List Col} (h : 1 ≤ cols.length) : rdRow cols [] = none := by
  cases cols with
  | nil => simp at h
  | cons c cs => rfl
/-- What a round is handed: where the row begins, and a slice that reads as it. -/
def ERow (p : (Nat × List Val) × Array Value) (W : World) : Prop := ∃ v, p.2 = #[.int .i64 p.1.1, v] ∧ ValsAt W v p.1.2
theorem ValsAt.kept {w w' : World} {v : Value} {l : List Val} (h : ValsAt w v l) (hk : ∀ (p : Addr) x, w.cell? p = some x → w'.cell? p = some x) : ValsAt w' v l := by
  obtain ⟨A, c, e, hc, hm, hi⟩ := h
  exact ⟨A, c, e, hc, hm, fun hl => by obtain ⟨b, off, ea, hi⟩ := hi hl; exact ⟨b, off, ea, fun i x hx => by obtain ⟨h0, h1, h2, h3⟩ := hi i x hx; exact ⟨hk _ _ h0, hk _ _ h1, hk _ _ h2, hk _ _ h3⟩⟩⟩
theorem erow_own (n : Nat) : OwnFrom n ERow := fun s A B row hs hg hr => by
  obtain ⟨v, e, h⟩ := hs
  exact ⟨v, e, h.kept fun p x hx => cell_kept hx hg (fun r e => (hr r e).2)⟩
theorem below_bel {w0 w W : World} {n : Nat} (h0 : w0.heap.size ≤ n) (hb : Bel w0 w) (h : Below n w W) : Bel w0 W := Below.trans hb (Below.mono h h0)
theorem cdEach_any (vc vk vu : Value) (Ab : Option Addr) (nb cb : Nat) (w : World) : Calls Tryz.prog 45 #[.agg #[vc, vk, vu], .slice Ab nb cb] w fun e w' => e = .returned (.func (.func 74) #[] #[.pointer (some ⟨w.heap.size, 0, none⟩), .pointer (some ⟨w.heap.size + 1, 0, none⟩)]) ∧ (w.alloc (.cells #[vc, vk, vu] 26)).alloc (.cells #[.slice Ab nb cb] 63) = w' := by
  go_enter Tryz.func45, Tryz.ntmps45
  go_wp2
  go_ret
  exact ⟨rfl, rfl⟩
set_option maxRecDepth 100000 in
set_option maxHeartbeats 8000000 in
theorem cdEach_seq (n : Nat) (hn : 6 ≤ n) {w₀ w : World} {B B2 n₀ : Nat} (vc vk vu vb : Value) (cols : List Col) (key : List Int) (uq : List (List Int)) (s : List UInt8) (hs : s.length ≤ 1000000) (hc : ColsAt w₀ vc cols) (hk : IntsAt w₀ vk key) (hu : ListsAt w₀ vu uq) (hb : BsAt w₀ vb s) (hw₀ : w₀.heap.size ≤ n₀) (hb₀ : Bel w₀ w) (hB : B < n₀) (hB2 : B2 < n₀) (hn0 : n₀ ≤ w.heap.size)
    (c0 : w.cell? ⟨B, 0, none⟩ = some vc) (c1 : w.cell? ⟨B, 1, none⟩ = some vk) (c2 : w.cell? ⟨B, 2, none⟩ = some vu) (c3 : w.cell? ⟨B2, 0, none⟩ = some vb) :
    SeqR Fence.wide n Tryz.prog 74 #[] #[.pointer (some ⟨B, 0, none⟩), .pointer (some ⟨B2, 0, none⟩)] ERow n₀ (eachS cols key uq s) w := fun l' J Jx W hW hJ hY hJ0 => by
  have HCE : Hid (∀ V, Below n₀ W V → (V.cell? ⟨B, 0, none⟩ = some vc ∧ V.cell? ⟨B, 1, none⟩ = some vk ∧ V.cell? ⟨B, 2, none⟩ = some vu) ∧ V.cell? ⟨B2, 0, none⟩ = some vb) := fun V h =>
    ⟨⟨(h.cell (p := ⟨B, 0, none⟩) hB).trans ((hW.cell (p := ⟨B, 0, none⟩) hB).trans c0), (h.cell (p := ⟨B, 1, none⟩) hB).trans ((hW.cell (p := ⟨B, 1, none⟩) hB).trans c1), (h.cell (p := ⟨B, 2, none⟩) hB).trans ((hW.cell (p := ⟨B, 2, none⟩) hB).trans c2)⟩, (h.cell (p := ⟨B2, 0, none⟩) hB2).trans ((hW.cell (p := ⟨B2, 0, none⟩) hB2).trans c3)⟩
  have HBW : Hid (∀ V, Below n₀ W V → Bel w₀ V) := fun V h => below_bel hw₀ hb₀ (hW.trans h)
  have HCK := Lib.hid (fun V (h : Below n₀ W V) => scCheck_any vc vk vu cols key uq V (hc.bel (HBW.out V h)) (hk.bel (HBW.out V h)) (hu.bel (HBW.out V h)))
  have HJ := Lib.hid hJ
  have HJ0 := Lib.hid hJ0
  have HWS : Hid (n₀ ≤ W.heap.size) := Nat.le_trans hn0 hW.size
  have HBS := Lib.hid hb
  have HCS := Lib.hid hc
  obtain ⟨Ac, cc, rfl, -⟩ := hc
  obtain ⟨Ak, ck, rfl, -⟩ := hk
  obtain ⟨Au, cu, rfl, -⟩ := hu
  have HY := Lib.hid hY
  obtain ⟨L, hL⟩ : ∃ L, L = eachS cols key uq s := ⟨_, rfl⟩
  rw [← hL] at HY ⊢
  clear hJ hY hJ0 c0 c1 c2 c3 hW hn0 hb₀
  cases hr : rightS cols key uq
  · have hnil : L = [] := by rw [hL]; unfold eachS; rw [hr]; rfl
    rw [hr] at HCK
    subst hnil
    simp only [Bool.false_eq_true, if_false] at HCK
    obtain ⟨⟨d0, d1, d2⟩, d3⟩ := HCE.out W (Below.refl _ _)
    clear hr hL hb
    refine callsIn_of_wp Tryz.func74 rfl trivial ?_ rfl
    simp only [Tryz.ntmps74, List.size_toArray, List.length_cons, List.length_nil, Nat.reduceAdd, Nat.reduceSub, Array.replicate_succ, Array.replicate_zero, List.push_toArray, List.append_toArray, List.nil_append, List.cons_append]
    gi_wp2
    refine wpIn_scope_wide ?_
    gi_wp2_with fail
    refine wpIn_label ?_
    gi_wp2_with fail
    gi_loopw [4] (fun i wr => wr = W ∧ i = .int .i64 0) (fun i _ => 0)
    case atStart => exact ⟨rfl, rfl⟩
    case round =>
      obtain ⟨rfl, rfl⟩ := hrel
      gi_wp2_with fail
      refine ⟨trivial, fun _ => by omega, (callsIn_wide.2 (HCK.out _ (Below.refl _ _))).mono ?_⟩
      rintro e4 w4 ⟨rfl, hb4⟩
      gi_wp2
      first | rw [Exit.noGoto_ret] | rw [Exit.noGoto_normal]
      first | go_end0 | refine bodyPost_ret (results_none rfl _ _ _) rfl ?_
      exact ⟨⟨_, rfl⟩, .inl (HJ.out _ _ _ HJ0.out hb4)⟩
  · obtain ⟨hrc, hl1, hl8⟩ := right_cols hr
    rw [hr] at HCK
    have hLE : L = eachL cols (s.length + 1) 0 s := by rw [hL]; unfold eachS; rw [if_pos hr]
    simp only [if_true] at HCK
    have HLE := Lib.hid hLE
    have HRC := Lib.hid hrc
    have hsI : (s.length : Int) ≤ 1000000 := by omega
    obtain ⟨Ab, cb, rfl, hbn, hbm, hrd⟩ := hb
    have HRD := Lib.hid hrd
    have HBM := Lib.hid (And.intro hbn hbm)
    have hbI : (s.length : Int) ≤ cb := by omega
    have hbJ : (cb : Int) ≤ 9223372036854775807 := by unfold maxLen at hbm; omega
    clear hr hL hLE hrc hbn hbm hrd
    refine callsIn_of_wp Tryz.func74 rfl trivial ?_ rfl
    simp only [Tryz.ntmps74, List.size_toArray, List.length_cons, List.length_nil, Nat.reduceAdd, Nat.reduceSub, Array.replicate_succ, Array.replicate_zero, List.push_toArray, List.append_toArray, List.nil_append, List.cons_append]
    gi_wp2
    refine wpIn_scope_wide ?_
    gi_wp2_with fail
    refine wpIn_label ?_
    gi_wp2_with fail
    gi_loopw [4] (fun v wr => ∃ i : Nat, v = .int .i64 i ∧ i ≤ s.length ∧ Hid (∃ pre, EachAt cols s L pre i ∧ J pre wr ∧ Below n₀ W wr)) (fun v _ => s.length - (intOf v).toNat)
    case atStart => exact ⟨0, rfl, Nat.zero_le _, [], by rw [HLE.out]; exact EachAt.start cols s, HJ0.out, Below.refl _ _⟩
    case round =>
      obtain ⟨m, rfl, hml, pre, HE0, HJP, HBL⟩ := hrel
      have HE := Lib.hid HE0
      have HJP := Lib.hid HJP
      have HBL := Lib.hid HBL
      obtain ⟨⟨d0, d1, d2⟩, d3⟩ := HCE.out wr HBL.out
      clear HE0
      gi_wp2_with fail
      refine ⟨trivial, fun _ => by omega, (callsIn_wide.2 (HCK.out _ HBL.out)).mono ?_⟩
      rintro e4 w4 ⟨rfl, hb4⟩
      have f0 := hb4.c d0
      have f1 := hb4.c d1
      have f2 := hb4.c d2
      have f3 := hb4.c d3
      have hws : n₀ ≤ wr.heap.size := Nat.le_trans HWS.out HBL.out.size
      have HB4 : Hid (Below n₀ W w4) := HBL.out.trans (Below.mono hb4 hws)
      have HJ4 := Lib.hid (HJ.out _ _ _ HJP.out hb4)
      have HW0 : Hid (Bel w₀ w4) := HBW.out w4 HB4.out
      have hws4 : n₀ ≤ w4.heap.size := Nat.le_trans hws hb4.size
      have HS : Hid (∀ V, Bel w4 V → (fun V : World => Bel w4 V ∧ (V.cell? ⟨B, 0, none⟩ = some (.slice Ac cols.length cc) ∧ V.cell? ⟨B, 1, none⟩ = some (.slice Ak key.length ck) ∧ V.cell? ⟨B, 2, none⟩ = some (.slice Au uq.length cu)) ∧ V.cell? ⟨B2, 0, none⟩ = some (.slice Ab s.length cb)) V) := fun V h => ⟨h, ⟨h.c f0, h.c f1, h.c f2⟩, h.c f3⟩
      have hmI : (m : Int) ≤ s.length := by omega
      have hI4 : ((s.length : Int) - m).toNat = s.length - m := by omega
      have hI5 : ((cb : Int) - m).toNat = cb - m := by omega
      have hdl : (s.drop m).length = s.length - m := List.length_drop
      clear hb4 d0 d1 d2 d3 f0 f1 f2 f3 hws
      cases Ab with
      | none =>
        obtain rfl : s = [] := by
          cases s with
          | nil => rfl
          | cons d s => have := HRD.out.2 (by simp); obtain ⟨_, h, -⟩ := this; cases h
        obtain rfl : m = 0 := by simpa using hml
        have hq : rdRow cols (List.drop 0 []) = none := rdRow_nil hl1
        have HRE : Hid (∀ V, Bel w4 V → Calls Tryz.prog 72 #[.agg #[.slice Ac cols.length cc, .slice Ak key.length ck, .slice Au uq.length cu], .slice none 0 cb] V (GivesDec none V)) := fun V h => by
          have := cdread_any _ (.slice Ak key.length ck) (.slice Au uq.length cu) (.slice none 0 cb) cols HRC.out (by omega) [] (by simp) V (HCS.out.bel (HW0.out.then_ h)) ⟨none, cb, rfl, Nat.zero_le _, HBM.out.2, Reads.none_⟩
          rw [rdRow_nil hl1] at this
          exact this
        obtain rfl : L = pre := HE.out.done hq
        clear HRD hq
        gi_wp2_with fail
        refine wpIn_wide.2 ?_
        refine wp_region_noPanic ?_
        refine wp_region_held_drew (S := (fun V : World => Bel w4 V ∧ (V.cell? ⟨B, 0, none⟩ = some (.slice Ac cols.length cc) ∧ V.cell? ⟨B, 1, none⟩ = some (.slice Ak key.length ck) ∧ V.cell? ⟨B, 2, none⟩ = some (.slice Au uq.length cu)) ∧ V.cell? ⟨B2, 0, none⟩ = some (.slice none 0 cb))) (by kernel_rfl) ?_ (fun hHr1_0 => ?_)
        · (try dsimp only); (first | assumption | exact HS.out _ (Bel.refl w4).drew | exact HS.out _ ((Bel.refl w4).drew.then_ hb6))
        refine wpAnyH_take (i := 0) (oi := _) (v := ?vr1_1_0) rfl (by kernel_rfl) (by kernel_rfl) (by kernel_rfl) ?hqr1_1_0 (Or.inl ⟨by kernel_rfl, ?hyr1_1_0⟩) (by assumption) ?restr1_1_0
        case hqr1_1_0 => exact fun _ _ _ h => h
        case hyr1_1_0 => (intro w hSw; (try dsimp only at hSw); go_simp; try with_reducible rfl)
        try simp only [Act.put, List.getElem_toArray, List.getElem_cons_succ, List.getElem_cons_zero, List.setIfInBounds_toArray, List.set_cons_zero, List.set_cons_succ]
        refine wpAnyH_take (i := 1) (oi := _) (v := ?vr1_1_1) rfl (by kernel_rfl) (by kernel_rfl) (by kernel_rfl) ?hqr1_1_1 (Or.inl ⟨by kernel_rfl, ?hyr1_1_1⟩) (by assumption) ?restr1_1_1
        case hqr1_1_1 => exact fun _ _ _ h => h
        case hyr1_1_1 => (intro w hSw; (try dsimp only at hSw); go_simp; try with_reducible rfl)
        try simp only [Act.put, List.getElem_toArray, List.getElem_cons_succ, List.getElem_cons_zero, List.setIfInBounds_toArray, List.set_cons_zero, List.set_cons_succ]
        refine wpAnyH_take (i := 2) (oi := _) (v := ?vr1_1_2) rfl (by kernel_rfl) (by kernel_rfl) (by kernel_rfl) ?hqr1_1_2 (Or.inl ⟨by kernel_rfl, ?hyr1_1_2⟩) (by assumption) ?restr1_1_2
        case hqr1_1_2 => exact fun _ _ _ h => h
        case hyr1_1_2 => (intro w hSw; (try dsimp only at hSw); go_simp; try with_reducible rfl)
        try simp only [Act.put, List.getElem_toArray, List.getElem_cons_succ, List.getElem_cons_zero, List.setIfInBounds_toArray, List.set_cons_zero, List.set_cons_succ]
        refine wpAnyH_take (i := 3) (oi := _) (v := ?vr1_1_3) rfl (by kernel_rfl) (by kernel_rfl) (by kernel_rfl) ?hqr1_1_3 (Or.inl ⟨by kernel_rfl, ?hyr1_1_3⟩) (by assumption) ?restr1_1_3
        case hqr1_1_3 => exact fun _ _ _ h => h
        case hyr1_1_3 => (intro w hSw; (try dsimp only at hSw); go_simp; try with_reducible rfl)
        try simp only [Act.put, List.getElem_toArray, List.getElem_cons_succ, List.getElem_cons_zero, List.setIfInBounds_toArray, List.set_cons_zero, List.set_cons_succ]
        refine wpAnyH_ready (rs := [4]) (by kernel_rfl) (by simp) ?_
        refine AllReadyH.cons (o := _) rfl (fun K hK => ?_) AllReadyH.nil
        go_simp
        (go_at_call 72; refine (HRE.out _ (Bel.refl w4).drew).mono ?_; rintro e w6 ⟨rfl, hb6⟩)
        try (go_wp2_with fail)
        refine hK.out _ _ ?_ (fun hHr1_1 => ?_)
        · (try dsimp only); (first | assumption | exact HS.out _ (Bel.refl w4).drew | exact HS.out _ ((Bel.refl w4).drew.then_ hb6))
        clear hK K hHr1_0
        try simp only [Act.put, List.getElem_toArray, List.getElem_cons_succ, List.getElem_cons_zero, List.setIfInBounds_toArray, List.set_cons_zero, List.set_cons_succ]
        refine wpAnyH_take (i := 5) (oi := _) (v := ?vr1_1_5) rfl (by kernel_rfl) (by kernel_rfl) (by kernel_rfl) ?hqr1_1_5 (Or.inl ⟨by kernel_rfl, ?hyr1_1_5⟩) (by assumption) ?restr1_1_5
        case hqr1_1_5 => exact fun _ _ _ h => h
        case hyr1_1_5 => (intro w hSw; (try dsimp only at hSw); go_simp; try with_reducible rfl)
        try simp only [Act.put, List.getElem_toArray, List.getElem_cons_succ, List.getElem_cons_zero, List.setIfInBounds_toArray, List.set_cons_zero, List.set_cons_succ]
        refine wpAnyH_take (i := 6) (oi := _) (v := ?vr1_1_6) rfl (by kernel_rfl) (by kernel_rfl) (by kernel_rfl) ?hqr1_1_6 (Or.inl ⟨by kernel_rfl, ?hyr1_1_6⟩) (by assumption) ?restr1_1_6
        case hqr1_1_6 => exact fun _ _ _ h => h
        case hyr1_1_6 => (intro w hSw; (try dsimp only at hSw); go_simp; try with_reducible rfl)
        try simp only [Act.put, List.getElem_toArray, List.getElem_cons_succ, List.getElem_cons_zero, List.setIfInBounds_toArray, List.set_cons_zero, List.set_cons_succ]
        refine wpAnyH_take (i := 7) (oi := _) (v := ?vr1_1_7) rfl (by kernel_rfl) (by kernel_rfl) (by kernel_rfl) ?hqr1_1_7 (Or.inl ⟨by kernel_rfl, ?hyr1_1_7⟩) (by assumption) ?restr1_1_7
        case hqr1_1_7 => exact fun _ _ _ h => h
        case hyr1_1_7 => (intro w hSw; (try dsimp only at hSw); go_simp; try with_reducible rfl)
        try simp only [Act.put, List.getElem_toArray, List.getElem_cons_succ, List.getElem_cons_zero, List.setIfInBounds_toArray, List.set_cons_zero, List.set_cons_succ]
        refine wpAnyH_take (i := 8) (oi := _) (v := ?vr1_1_8) rfl (by kernel_rfl) (by kernel_rfl) (by kernel_rfl) ?hqr1_1_8 (Or.inl ⟨by kernel_rfl, ?hyr1_1_8⟩) (by assumption) ?restr1_1_8
        case hqr1_1_8 => exact fun _ _ _ h => h
        case hyr1_1_8 => (intro w hSw; (try dsimp only at hSw); go_simp; try with_reducible rfl)
        try simp only [Act.put, List.getElem_toArray, List.getElem_cons_succ, List.getElem_cons_zero, List.setIfInBounds_toArray, List.set_cons_zero, List.set_cons_succ]
        refine wpAnyH_take (i := 9) (oi := _) (v := ?vr1_1_9) rfl (by kernel_rfl) (by kernel_rfl) (by kernel_rfl) ?hqr1_1_9 (Or.inl ⟨by kernel_rfl, ?hyr1_1_9⟩) (by assumption) ?restr1_1_9
        case hqr1_1_9 => exact fun _ _ _ h => h
        case hyr1_1_9 => (intro w hSw; (try dsimp only at hSw); go_simp; try with_reducible rfl)
        try simp only [Act.put, List.getElem_toArray, List.getElem_cons_succ, List.getElem_cons_zero, List.setIfInBounds_toArray, List.set_cons_zero, List.set_cons_succ]
        refine wpAnyH_take (i := 10) (oi := _) (v := ?vr1_1_10) rfl (by kernel_rfl) (by kernel_rfl) (by kernel_rfl) ?hqr1_1_10 (Or.inl ⟨by kernel_rfl, ?hyr1_1_10⟩) (by assumption) ?restr1_1_10
        case hqr1_1_10 => exact fun _ _ _ h => h
        case hyr1_1_10 => (intro w hSw; (try dsimp only at hSw); go_simp; try with_reducible rfl)
        try simp only [Act.put, List.getElem_toArray, List.getElem_cons_succ, List.getElem_cons_zero, List.setIfInBounds_toArray, List.set_cons_zero, List.set_cons_succ]
        refine wpAnyH_take (i := 11) (oi := _) (v := ?vr1_1_11) rfl (by kernel_rfl) (by kernel_rfl) (by kernel_rfl) ?hqr1_1_11 (Or.inl ⟨by kernel_rfl, ?hyr1_1_11⟩) (by assumption) ?restr1_1_11
        case hqr1_1_11 => exact fun _ _ _ h => h
        case hyr1_1_11 => (intro w hSw; (try dsimp only at hSw); go_simp; try with_reducible rfl)
        try simp only [Act.put, List.getElem_toArray, List.getElem_cons_succ, List.getElem_cons_zero, List.setIfInBounds_toArray, List.set_cons_zero, List.set_cons_succ]
        refine wpAnyH_done (by kernel_rfl) ?_ _
        refine NoPanic.normal ?_
        have HFIN := Lib.hid (HJ.out _ _ _ HJ4.out ((Bel.refl w4).drew.then_ hb6))
        gi_wp2_with fail
        refine ⟨(fun _ h => by cases h), ?_⟩
        gi_wp2
        first | rw [Exit.noGoto_ret] | rw [Exit.noGoto_normal]
        first | go_end0 | refine bodyPost_ret (results_none rfl _ _ _) rfl ?_
        exact ⟨⟨_, rfl⟩, .inl HFIN.out⟩
      | some ad =>
        by_cases hmc : cb = m
        · obtain rfl : m = s.length := by omega
          subst hmc
          have hq : rdRow cols (s.drop s.length) = none := by rw [List.drop_length]; exact rdRow_nil hl1
          have HRE : Hid (∀ V, Bel w4 V → Calls Tryz.prog 72 #[.agg #[.slice Ac cols.length cc, .slice Ak key.length ck, .slice Au uq.length cu], .slice (some ad) 0 0] V (GivesDec none V)) := fun V h => by
            have := cdread_any _ (.slice Ak key.length ck) (.slice Au uq.length cu) (.slice (some ad) 0 0) cols HRC.out (by omega) [] (by simp) V (HCS.out.bel (HW0.out.then_ h)) ⟨some ad, 0, rfl, Nat.zero_le _, Nat.zero_le _, ⟨by simp, fun h => by simp at h⟩⟩
            rw [rdRow_nil hl1] at this
            exact this
          obtain rfl : L = pre := HE.out.done hq
          clear HRD hq
          gi_wp2_with fail
          refine wpIn_wide.2 ?_
          refine wp_region_noPanic ?_
          refine wp_region_held_drew (S := (fun V : World => Bel w4 V ∧ (V.cell? ⟨B, 0, none⟩ = some (.slice Ac cols.length cc) ∧ V.cell? ⟨B, 1, none⟩ = some (.slice Ak key.length ck) ∧ V.cell? ⟨B, 2, none⟩ = some (.slice Au uq.length cu)) ∧ V.cell? ⟨B2, 0, none⟩ = some (.slice (some ad) s.length s.length))) (by kernel_rfl) ?_ (fun hHr2_0 => ?_)
          · (try dsimp only); (first | assumption | exact HS.out _ (Bel.refl w4).drew | exact HS.out _ ((Bel.refl w4).drew.then_ hb6))
          refine wpAnyH_take (i := 0) (oi := _) (v := ?vr2_1_0) rfl (by kernel_rfl) (by kernel_rfl) (by kernel_rfl) ?hqr2_1_0 (Or.inl ⟨by kernel_rfl, ?hyr2_1_0⟩) (by assumption) ?restr2_1_0
          case hqr2_1_0 => exact fun _ _ _ h => h
          case hyr2_1_0 => (intro w hSw; (try dsimp only at hSw); go_simp; try with_reducible rfl)
          try simp only [Act.put, List.getElem_toArray, List.getElem_cons_succ, List.getElem_cons_zero, List.setIfInBounds_toArray, List.set_cons_zero, List.set_cons_succ]
          refine wpAnyH_take (i := 1) (oi := _) (v := ?vr2_1_1) rfl (by kernel_rfl) (by kernel_rfl) (by kernel_rfl) ?hqr2_1_1 (Or.inl ⟨by kernel_rfl, ?hyr2_1_1⟩) (by assumption) ?restr2_1_1
          case hqr2_1_1 => exact fun _ _ _ h => h
          case hyr2_1_1 => (intro w hSw; (try dsimp only at hSw); go_simp; try with_reducible rfl)
          try simp only [Act.put, List.getElem_toArray, List.getElem_cons_succ, List.getElem_cons_zero, List.setIfInBounds_toArray, List.set_cons_zero, List.set_cons_succ]
          refine wpAnyH_take (i := 2) (oi := _) (v := ?vr2_1_2) rfl (by kernel_rfl) (by kernel_rfl) (by kernel_rfl) ?hqr2_1_2 (Or.inl ⟨by kernel_rfl, ?hyr2_1_2⟩) (by assumption) ?restr2_1_2
          case hqr2_1_2 => exact fun _ _ _ h => h
          case hyr2_1_2 => (intro w hSw; (try dsimp only at hSw); go_simp; try with_reducible rfl)
          try simp only [Act.put, List.getElem_toArray, List.getElem_cons_succ, List.getElem_cons_zero, List.setIfInBounds_toArray, List.set_cons_zero, List.set_cons_succ]
          refine wpAnyH_take (i := 3) (oi := _) (v := ?vr2_1_3) rfl (by kernel_rfl) (by kernel_rfl) (by kernel_rfl) ?hqr2_1_3 (Or.inl ⟨by kernel_rfl, ?hyr2_1_3⟩) (by assumption) ?restr2_1_3
          case hqr2_1_3 => exact fun _ _ _ h => h
          case hyr2_1_3 => (intro w hSw; (try dsimp only at hSw); go_simp; try with_reducible rfl)
          try simp only [Act.put, List.getElem_toArray, List.getElem_cons_succ, List.getElem_cons_zero, List.setIfInBounds_toArray, List.set_cons_zero, List.set_cons_succ]
          refine wpAnyH_ready (rs := [4]) (by kernel_rfl) (by simp) ?_
          refine AllReadyH.cons (o := _) rfl (fun K hK => ?_) AllReadyH.nil
          go_simp
          (go_at_call 72; refine (HRE.out _ (Bel.refl w4).drew).mono ?_; rintro e w6 ⟨rfl, hb6⟩)
          try (go_wp2_with fail)
          refine hK.out _ _ ?_ (fun hHr2_1 => ?_)
          · (try dsimp only); (first | assumption | exact HS.out _ (Bel.refl w4).drew | exact HS.out _ ((Bel.refl w4).drew.then_ hb6))
          clear hK K hHr2_0
          try simp only [Act.put, List.getElem_toArray, List.getElem_cons_succ, List.getElem_cons_zero, List.setIfInBounds_toArray, List.set_cons_zero, List.set_cons_succ]
          refine wpAnyH_take (i := 5) (oi := _) (v := ?vr2_1_5) rfl (by kernel_rfl) (by kernel_rfl) (by kernel_rfl) ?hqr2_1_5 (Or.inl ⟨by kernel_rfl, ?hyr2_1_5⟩) (by assumption) ?restr2_1_5
          case hqr2_1_5 => exact fun _ _ _ h => h
          case hyr2_1_5 => (intro w hSw; (try dsimp only at hSw); go_simp; try with_reducible rfl)
          try simp only [Act.put, List.getElem_toArray, List.getElem_cons_succ, List.getElem_cons_zero, List.setIfInBounds_toArray, List.set_cons_zero, List.set_cons_succ]
          refine wpAnyH_take (i := 6) (oi := _) (v := ?vr2_1_6) rfl (by kernel_rfl) (by kernel_rfl) (by kernel_rfl) ?hqr2_1_6 (Or.inl ⟨by kernel_rfl, ?hyr2_1_6⟩) (by assumption) ?restr2_1_6
          case hqr2_1_6 => exact fun _ _ _ h => h
          case hyr2_1_6 => (intro w hSw; (try dsimp only at hSw); go_simp; try with_reducible rfl)
          try simp only [Act.put, List.getElem_toArray, List.getElem_cons_succ, List.getElem_cons_zero, List.setIfInBounds_toArray, List.set_cons_zero, List.set_cons_succ]
          refine wpAnyH_take (i := 7) (oi := _) (v := ?vr2_1_7) rfl (by kernel_rfl) (by kernel_rfl) (by kernel_rfl) ?hqr2_1_7 (Or.inl ⟨by kernel_rfl, ?hyr2_1_7⟩) (by assumption) ?restr2_1_7
          case hqr2_1_7 => exact fun _ _ _ h => h
          case hyr2_1_7 => (intro w hSw; (try dsimp only at hSw); go_simp; try with_reducible rfl)
          try simp only [Act.put, List.getElem_toArray, List.getElem_cons_succ, List.getElem_cons_zero, List.setIfInBounds_toArray, List.set_cons_zero, List.set_cons_succ]
          refine wpAnyH_take (i := 8) (oi := _) (v := ?vr2_1_8) rfl (by kernel_rfl) (by kernel_rfl) (by kernel_rfl) ?hqr2_1_8 (Or.inl ⟨by kernel_rfl, ?hyr2_1_8⟩) (by assumption) ?restr2_1_8
          case hqr2_1_8 => exact fun _ _ _ h => h
          case hyr2_1_8 => (intro w hSw; (try dsimp only at hSw); go_simp; try with_reducible rfl)
          try simp only [Act.put, List.getElem_toArray, List.getElem_cons_succ, List.getElem_cons_zero, List.setIfInBounds_toArray, List.set_cons_zero, List.set_cons_succ]
          refine wpAnyH_take (i := 9) (oi := _) (v := ?vr2_1_9) rfl (by kernel_rfl) (by kernel_rfl) (by kernel_rfl) ?hqr2_1_9 (Or.inl ⟨by kernel_rfl, ?hyr2_1_9⟩) (by assumption) ?restr2_1_9
          case hqr2_1_9 => exact fun _ _ _ h => h
          case hyr2_1_9 => (intro w hSw; (try dsimp only at hSw); go_simp; try with_reducible rfl)
          try simp only [Act.put, List.getElem_toArray, List.getElem_cons_succ, List.getElem_cons_zero, List.setIfInBounds_toArray, List.set_cons_zero, List.set_cons_succ]
          refine wpAnyH_take (i := 10) (oi := _) (v := ?vr2_1_10) rfl (by kernel_rfl) (by kernel_rfl) (by kernel_rfl) ?hqr2_1_10 (Or.inl ⟨by kernel_rfl, ?hyr2_1_10⟩) (by assumption) ?restr2_1_10
          case hqr2_1_10 => exact fun _ _ _ h => h
          case hyr2_1_10 => (intro w hSw; (try dsimp only at hSw); go_simp; try with_reducible rfl)
          try simp only [Act.put, List.getElem_toArray, List.getElem_cons_succ, List.getElem_cons_zero, List.setIfInBounds_toArray, List.set_cons_zero, List.set_cons_succ]
          refine wpAnyH_take (i := 11) (oi := _) (v := ?vr2_1_11) rfl (by kernel_rfl) (by kernel_rfl) (by kernel_rfl) ?hqr2_1_11 (Or.inl ⟨by kernel_rfl, ?hyr2_1_11⟩) (by assumption) ?restr2_1_11
          case hqr2_1_11 => exact fun _ _ _ h => h
          case hyr2_1_11 => (intro w hSw; (try dsimp only at hSw); go_simp; try with_reducible rfl)
          try simp only [Act.put, List.getElem_toArray, List.getElem_cons_succ, List.getElem_cons_zero, List.setIfInBounds_toArray, List.set_cons_zero, List.set_cons_succ]
          refine wpAnyH_done (by kernel_rfl) ?_ _
          refine NoPanic.normal ?_
          have HFIN := Lib.hid (HJ.out _ _ _ HJ4.out ((Bel.refl w4).drew.then_ hb6))
          gi_wp2_with fail
          refine ⟨(fun _ h => by cases h), ?_⟩
          gi_wp2
          first | rw [Exit.noGoto_ret] | rw [Exit.noGoto_normal]
          first | go_end0 | refine bodyPost_ret (results_none rfl _ _ _) rfl ?_
          exact ⟨⟨_, rfl⟩, .inl HFIN.out⟩
        · have hcut := HRD.out.cut (k := m) hml HBM.out.1
          rw [Nat.mul_one, ← List.map_drop, if_neg hmc, ← hdl] at hcut
          have HRE : Hid (∀ V, Bel w4 V → Calls Tryz.prog 72 #[.agg #[.slice Ac cols.length cc, .slice Ak key.length ck, .slice Au uq.length cu], .slice (some (ad.add m)) (s.length - m) (cb - m)] V (GivesDec (rdRow cols (s.drop m)) V)) := fun V h => by
            have hbV : BsAt V (.slice (some (ad.add m)) (s.length - m) (cb - m)) (s.drop m) := by
              rw [← hdl]
              exact ⟨_, _, rfl, by have := HBM.out.1; omega, by have := HBM.out.2; omega, hcut.belH (HW0.out.then_ h)⟩
            exact cdread_any _ (.slice Ak key.length ck) (.slice Au uq.length cu) _ cols HRC.out (by omega) (s.drop m) (by omega) V (HCS.out.bel (HW0.out.then_ h)) hbV
          clear hcut
          cases hq : rdRow cols (s.drop m) with
          | none =>
            rw [hq] at HRE
            obtain rfl : L = pre := HE.out.done hq
            clear HRD hq
            gi_wp2_with fail
            refine wpIn_wide.2 ?_
            refine wp_region_noPanic ?_
            refine wp_region_held_drew (S := (fun V : World => Bel w4 V ∧ (V.cell? ⟨B, 0, none⟩ = some (.slice Ac cols.length cc) ∧ V.cell? ⟨B, 1, none⟩ = some (.slice Ak key.length ck) ∧ V.cell? ⟨B, 2, none⟩ = some (.slice Au uq.length cu)) ∧ V.cell? ⟨B2, 0, none⟩ = some (.slice (some ad) s.length cb))) (by kernel_rfl) ?_ (fun hHr3_0 => ?_)
            · (try dsimp only); (first | assumption | exact HS.out _ (Bel.refl w4).drew | exact HS.out _ ((Bel.refl w4).drew.then_ hb6))
            refine wpAnyH_take (i := 0) (oi := _) (v := ?vr3_1_0) rfl (by kernel_rfl) (by kernel_rfl) (by kernel_rfl) ?hqr3_1_0 (Or.inl ⟨by kernel_rfl, ?hyr3_1_0⟩) (by assumption) ?restr3_1_0
            case hqr3_1_0 => exact fun _ _ _ h => h
            case hyr3_1_0 => (intro w hSw; (try dsimp only at hSw); go_simp; try with_reducible rfl)
            try simp only [Act.put, List.getElem_toArray, List.getElem_cons_succ, List.getElem_cons_zero, List.setIfInBounds_toArray, List.set_cons_zero, List.set_cons_succ]
            refine wpAnyH_take (i := 1) (oi := _) (v := ?vr3_1_1) rfl (by kernel_rfl) (by kernel_rfl) (by kernel_rfl) ?hqr3_1_1 (Or.inl ⟨by kernel_rfl, ?hyr3_1_1⟩) (by assumption) ?restr3_1_1
            case hqr3_1_1 => exact fun _ _ _ h => h
            case hyr3_1_1 => (intro w hSw; (try dsimp only at hSw); go_simp; try with_reducible rfl)
            try simp only [Act.put, List.getElem_toArray, List.getElem_cons_succ, List.getElem_cons_zero, List.setIfInBounds_toArray, List.set_cons_zero, List.set_cons_succ]
            refine wpAnyH_take (i := 2) (oi := _) (v := ?vr3_1_2) rfl (by kernel_rfl) (by kernel_rfl) (by kernel_rfl) ?hqr3_1_2 (Or.inl ⟨by kernel_rfl, ?hyr3_1_2⟩) (by assumption) ?restr3_1_2
            case hqr3_1_2 => exact fun _ _ _ h => h
            case hyr3_1_2 => (intro w hSw; (try dsimp only at hSw); go_simp; try with_reducible rfl)
            try simp only [Act.put, List.getElem_toArray, List.getElem_cons_succ, List.getElem_cons_zero, List.setIfInBounds_toArray, List.set_cons_zero, List.set_cons_succ]
            refine wpAnyH_take (i := 3) (oi := _) (v := ?vr3_1_3) rfl (by kernel_rfl) (by kernel_rfl) (by kernel_rfl) ?hqr3_1_3 (Or.inl ⟨by kernel_rfl, ?hyr3_1_3⟩) (by assumption) ?restr3_1_3
            case hqr3_1_3 => exact fun _ _ _ h => h
            case hyr3_1_3 => (intro w hSw; (try dsimp only at hSw); go_simp; try with_reducible rfl)
            try simp only [Act.put, List.getElem_toArray, List.getElem_cons_succ, List.getElem_cons_zero, List.setIfInBounds_toArray, List.set_cons_zero, List.set_cons_succ]
            refine wpAnyH_ready (rs := [4]) (by kernel_rfl) (by simp) ?_
            refine AllReadyH.cons (o := _) rfl (fun K hK => ?_) AllReadyH.nil
            go_simp
            (go_at_call 72; refine (HRE.out _ (Bel.refl w4).drew).mono ?_; rintro e w6 ⟨rfl, hb6⟩)
            try (go_wp2_with fail)
            refine hK.out _ _ ?_ (fun hHr3_1 => ?_)
            · (try dsimp only); (first | assumption | exact HS.out _ (Bel.refl w4).drew | exact HS.out _ ((Bel.refl w4).drew.then_ hb6))
            clear hK K hHr3_0
            try simp only [Act.put, List.getElem_toArray, List.getElem_cons_succ, List.getElem_cons_zero, List.setIfInBounds_toArray, List.set_cons_zero, List.set_cons_succ]
            refine wpAnyH_take (i := 5) (oi := _) (v := ?vr3_1_5) rfl (by kernel_rfl) (by kernel_rfl) (by kernel_rfl) ?hqr3_1_5 (Or.inl ⟨by kernel_rfl, ?hyr3_1_5⟩) (by assumption) ?restr3_1_5
            case hqr3_1_5 => exact fun _ _ _ h => h
            case hyr3_1_5 => (intro w hSw; (try dsimp only at hSw); go_simp; try with_reducible rfl)
            try simp only [Act.put, List.getElem_toArray, List.getElem_cons_succ, List.getElem_cons_zero, List.setIfInBounds_toArray, List.set_cons_zero, List.set_cons_succ]
            refine wpAnyH_take (i := 6) (oi := _) (v := ?vr3_1_6) rfl (by kernel_rfl) (by kernel_rfl) (by kernel_rfl) ?hqr3_1_6 (Or.inl ⟨by kernel_rfl, ?hyr3_1_6⟩) (by assumption) ?restr3_1_6
            case hqr3_1_6 => exact fun _ _ _ h => h
            case hyr3_1_6 => (intro w hSw; (try dsimp only at hSw); go_simp; try with_reducible rfl)
            try simp only [Act.put, List.getElem_toArray, List.getElem_cons_succ, List.getElem_cons_zero, List.setIfInBounds_toArray, List.set_cons_zero, List.set_cons_succ]
            refine wpAnyH_take (i := 7) (oi := _) (v := ?vr3_1_7) rfl (by kernel_rfl) (by kernel_rfl) (by kernel_rfl) ?hqr3_1_7 (Or.inl ⟨by kernel_rfl, ?hyr3_1_7⟩) (by assumption) ?restr3_1_7
            case hqr3_1_7 => exact fun _ _ _ h => h
            case hyr3_1_7 => (intro w hSw; (try dsimp only at hSw); go_simp; try with_reducible rfl)
            try simp only [Act.put, List.getElem_toArray, List.getElem_cons_succ, List.getElem_cons_zero, List.setIfInBounds_toArray, List.set_cons_zero, List.set_cons_succ]
            refine wpAnyH_take (i := 8) (oi := _) (v := ?vr3_1_8) rfl (by kernel_rfl) (by kernel_rfl) (by kernel_rfl) ?hqr3_1_8 (Or.inl ⟨by kernel_rfl, ?hyr3_1_8⟩) (by assumption) ?restr3_1_8
            case hqr3_1_8 => exact fun _ _ _ h => h
            case hyr3_1_8 => (intro w hSw; (try dsimp only at hSw); go_simp; try with_reducible rfl)
            try simp only [Act.put, List.getElem_toArray, List.getElem_cons_succ, List.getElem_cons_zero, List.setIfInBounds_toArray, List.set_cons_zero, List.set_cons_succ]
            refine wpAnyH_take (i := 9) (oi := _) (v := ?vr3_1_9) rfl (by kernel_rfl) (by kernel_rfl) (by kernel_rfl) ?hqr3_1_9 (Or.inl ⟨by kernel_rfl, ?hyr3_1_9⟩) (by assumption) ?restr3_1_9
            case hqr3_1_9 => exact fun _ _ _ h => h
            case hyr3_1_9 => (intro w hSw; (try dsimp only at hSw); go_simp; try with_reducible rfl)
            try simp only [Act.put, List.getElem_toArray, List.getElem_cons_succ, List.getElem_cons_zero, List.setIfInBounds_toArray, List.set_cons_zero, List.set_cons_succ]
            refine wpAnyH_take (i := 10) (oi := _) (v := ?vr3_1_10) rfl (by kernel_rfl) (by kernel_rfl) (by kernel_rfl) ?hqr3_1_10 (Or.inl ⟨by kernel_rfl, ?hyr3_1_10⟩) (by assumption) ?restr3_1_10
            case hqr3_1_10 => exact fun _ _ _ h => h
            case hyr3_1_10 => (intro w hSw; (try dsimp only at hSw); go_simp; try with_reducible rfl)
            try simp only [Act.put, List.getElem_toArray, List.getElem_cons_succ, List.getElem_cons_zero, List.setIfInBounds_toArray, List.set_cons_zero, List.set_cons_succ]
            refine wpAnyH_take (i := 11) (oi := _) (v := ?vr3_1_11) rfl (by kernel_rfl) (by kernel_rfl) (by kernel_rfl) ?hqr3_1_11 (Or.inl ⟨by kernel_rfl, ?hyr3_1_11⟩) (by assumption) ?restr3_1_11
            case hqr3_1_11 => exact fun _ _ _ h => h
            case hyr3_1_11 => (intro w hSw; (try dsimp only at hSw); go_simp; try with_reducible rfl)
            try simp only [Act.put, List.getElem_toArray, List.getElem_cons_succ, List.getElem_cons_zero, List.setIfInBounds_toArray, List.set_cons_zero, List.set_cons_succ]
            refine wpAnyH_done (by kernel_rfl) ?_ _
            refine NoPanic.normal ?_
            have HFIN := Lib.hid (HJ.out _ _ _ HJ4.out ((Bel.refl w4).drew.then_ hb6))
            gi_wp2_with fail
            refine ⟨(fun _ h => by cases h), ?_⟩
            gi_wp2
            first | rw [Exit.noGoto_ret] | rw [Exit.noGoto_normal]
            first | go_end0 | refine bodyPost_ret (results_none rfl _ _ _) rfl ?_
            exact ⟨⟨_, rfl⟩, .inl HFIN.out⟩
          | some p =>
            obtain ⟨l, k⟩ := p
            rw [hq] at HRE
            obtain ⟨hnx, hk1, hkl, rest, hrest⟩ := HE.out.next HRC.out hl1 hq
            have HNX := Lib.hid hnx
            have HREST := Lib.hid hrest
            have hwr : IntKind.i64.wrap ((m : Int) + k) = ((m + k : Nat) : Int) := by
              simp only [IntKind.wrap, IntKind.bits, IntKind.signed]
              simp
              omega
            clear HRD hq hnx hrest
            gi_wp2_with fail
            refine wpIn_wide.2 ?_
            refine wp_region_noPanic ?_
            refine wp_region_held_drew (S := (fun V : World => Bel w4 V ∧ (V.cell? ⟨B, 0, none⟩ = some (.slice Ac cols.length cc) ∧ V.cell? ⟨B, 1, none⟩ = some (.slice Ak key.length ck) ∧ V.cell? ⟨B, 2, none⟩ = some (.slice Au uq.length cu)) ∧ V.cell? ⟨B2, 0, none⟩ = some (.slice (some ad) s.length cb))) (by kernel_rfl) ?_ (fun hHr4_0 => ?_)
            · (try dsimp only); (first | assumption | exact HS.out _ (Bel.refl w4).drew | exact HS.out _ ((Bel.refl w4).drew.then_ hb6))
            refine wpAnyH_take (i := 0) (oi := _) (v := ?vr4_1_0) rfl (by kernel_rfl) (by kernel_rfl) (by kernel_rfl) ?hqr4_1_0 (Or.inl ⟨by kernel_rfl, ?hyr4_1_0⟩) (by assumption) ?restr4_1_0
            case hqr4_1_0 => exact fun _ _ _ h => h
            case hyr4_1_0 => (intro w hSw; (try dsimp only at hSw); go_simp; try with_reducible rfl)
            try simp only [Act.put, List.getElem_toArray, List.getElem_cons_succ, List.getElem_cons_zero, List.setIfInBounds_toArray, List.set_cons_zero, List.set_cons_succ]
            refine wpAnyH_take (i := 1) (oi := _) (v := ?vr4_1_1) rfl (by kernel_rfl) (by kernel_rfl) (by kernel_rfl) ?hqr4_1_1 (Or.inl ⟨by kernel_rfl, ?hyr4_1_1⟩) (by assumption) ?restr4_1_1
            case hqr4_1_1 => exact fun _ _ _ h => h
            case hyr4_1_1 => (intro w hSw; (try dsimp only at hSw); go_simp; try with_reducible rfl)
            try simp only [Act.put, List.getElem_toArray, List.getElem_cons_succ, List.getElem_cons_zero, List.setIfInBounds_toArray, List.set_cons_zero, List.set_cons_succ]
            refine wpAnyH_take (i := 2) (oi := _) (v := ?vr4_1_2) rfl (by kernel_rfl) (by kernel_rfl) (by kernel_rfl) ?hqr4_1_2 (Or.inl ⟨by kernel_rfl, ?hyr4_1_2⟩) (by assumption) ?restr4_1_2
            case hqr4_1_2 => exact fun _ _ _ h => h
            case hyr4_1_2 => (intro w hSw; (try dsimp only at hSw); go_simp; try with_reducible rfl)
            try simp only [Act.put, List.getElem_toArray, List.getElem_cons_succ, List.getElem_cons_zero, List.setIfInBounds_toArray, List.set_cons_zero, List.set_cons_succ]
            refine wpAnyH_take (i := 3) (oi := _) (v := ?vr4_1_3) rfl (by kernel_rfl) (by kernel_rfl) (by kernel_rfl) ?hqr4_1_3 (Or.inl ⟨by kernel_rfl, ?hyr4_1_3⟩) (by assumption) ?restr4_1_3
            case hqr4_1_3 => exact fun _ _ _ h => h
            case hyr4_1_3 => (intro w hSw; (try dsimp only at hSw); go_simp; try with_reducible rfl)
            try simp only [Act.put, List.getElem_toArray, List.getElem_cons_succ, List.getElem_cons_zero, List.setIfInBounds_toArray, List.set_cons_zero, List.set_cons_succ]
            refine wpAnyH_ready (rs := [4]) (by kernel_rfl) (by simp) ?_
            refine AllReadyH.cons (o := _) rfl (fun K hK => ?_) AllReadyH.nil
            go_simp
            (go_at_call 72; refine (HRE.out _ (Bel.refl w4).drew).mono ?_; rintro e w6 ⟨v6, rfl, hv6, hb6⟩; have HV6 := Lib.hid hv6; obtain ⟨A6, c6, rfl, -⟩ := hv6)
            try (go_wp2_with fail)
            refine hK.out _ _ ?_ (fun hHr4_1 => ?_)
            · (try dsimp only); (first | assumption | exact HS.out _ (Bel.refl w4).drew | exact HS.out _ ((Bel.refl w4).drew.then_ hb6))
            clear hK K hHr4_0
            try simp only [Act.put, List.getElem_toArray, List.getElem_cons_succ, List.getElem_cons_zero, List.setIfInBounds_toArray, List.set_cons_zero, List.set_cons_succ]
            refine wpAnyH_take (i := 5) (oi := _) (v := ?vr4_1_5) rfl (by kernel_rfl) (by kernel_rfl) (by kernel_rfl) ?hqr4_1_5 (Or.inl ⟨by kernel_rfl, ?hyr4_1_5⟩) (by assumption) ?restr4_1_5
            case hqr4_1_5 => exact fun _ _ _ h => h
            case hyr4_1_5 => (intro w hSw; (try dsimp only at hSw); go_simp; try with_reducible rfl)
            try simp only [Act.put, List.getElem_toArray, List.getElem_cons_succ, List.getElem_cons_zero, List.setIfInBounds_toArray, List.set_cons_zero, List.set_cons_succ]
            refine wpAnyH_take (i := 6) (oi := _) (v := ?vr4_1_6) rfl (by kernel_rfl) (by kernel_rfl) (by kernel_rfl) ?hqr4_1_6 (Or.inl ⟨by kernel_rfl, ?hyr4_1_6⟩) (by assumption) ?restr4_1_6
            case hqr4_1_6 => exact fun _ _ _ h => h
            case hyr4_1_6 => (intro w hSw; (try dsimp only at hSw); go_simp; try with_reducible rfl)
            try simp only [Act.put, List.getElem_toArray, List.getElem_cons_succ, List.getElem_cons_zero, List.setIfInBounds_toArray, List.set_cons_zero, List.set_cons_succ]
            refine wpAnyH_take (i := 7) (oi := _) (v := ?vr4_1_7) rfl (by kernel_rfl) (by kernel_rfl) (by kernel_rfl) ?hqr4_1_7 (Or.inl ⟨by kernel_rfl, ?hyr4_1_7⟩) (by assumption) ?restr4_1_7
            case hqr4_1_7 => exact fun _ _ _ h => h
            case hyr4_1_7 => (intro w hSw; (try dsimp only at hSw); go_simp; try with_reducible rfl)
            try simp only [Act.put, List.getElem_toArray, List.getElem_cons_succ, List.getElem_cons_zero, List.setIfInBounds_toArray, List.set_cons_zero, List.set_cons_succ]
            refine wpAnyH_take (i := 8) (oi := _) (v := ?vr4_1_8) rfl (by kernel_rfl) (by kernel_rfl) (by kernel_rfl) ?hqr4_1_8 (Or.inl ⟨by kernel_rfl, ?hyr4_1_8⟩) (by assumption) ?restr4_1_8
            case hqr4_1_8 => exact fun _ _ _ h => h
            case hyr4_1_8 => (intro w hSw; (try dsimp only at hSw); go_simp; try with_reducible rfl)
            try simp only [Act.put, List.getElem_toArray, List.getElem_cons_succ, List.getElem_cons_zero, List.setIfInBounds_toArray, List.set_cons_zero, List.set_cons_succ]
            refine wpAnyH_take (i := 9) (oi := _) (v := ?vr4_1_9) rfl (by kernel_rfl) (by kernel_rfl) (by kernel_rfl) ?hqr4_1_9 (Or.inl ⟨by kernel_rfl, ?hyr4_1_9⟩) (by assumption) ?restr4_1_9
            case hqr4_1_9 => exact fun _ _ _ h => h
            case hyr4_1_9 => (intro w hSw; (try dsimp only at hSw); go_simp; try with_reducible rfl)
            try simp only [Act.put, List.getElem_toArray, List.getElem_cons_succ, List.getElem_cons_zero, List.setIfInBounds_toArray, List.set_cons_zero, List.set_cons_succ]
            refine wpAnyH_take (i := 10) (oi := _) (v := ?vr4_1_10) rfl (by kernel_rfl) (by kernel_rfl) (by kernel_rfl) ?hqr4_1_10 (Or.inl ⟨by kernel_rfl, ?hyr4_1_10⟩) (by assumption) ?restr4_1_10
            case hqr4_1_10 => exact fun _ _ _ h => h
            case hyr4_1_10 => (intro w hSw; (try dsimp only at hSw); go_simp; try with_reducible rfl)
            try simp only [Act.put, List.getElem_toArray, List.getElem_cons_succ, List.getElem_cons_zero, List.setIfInBounds_toArray, List.set_cons_zero, List.set_cons_succ]
            refine wpAnyH_take (i := 11) (oi := _) (v := ?vr4_1_11) rfl (by kernel_rfl) (by kernel_rfl) (by kernel_rfl) ?hqr4_1_11 (Or.inl ⟨by kernel_rfl, ?hyr4_1_11⟩) (by assumption) ?restr4_1_11
            case hqr4_1_11 => exact fun _ _ _ h => h
            case hyr4_1_11 => (intro w hSw; (try dsimp only at hSw); go_simp; try with_reducible rfl)
            try simp only [Act.put, List.getElem_toArray, List.getElem_cons_succ, List.getElem_cons_zero, List.setIfInBounds_toArray, List.set_cons_zero, List.set_cons_succ]
            refine wpAnyH_done (by kernel_rfl) ?_ _
            refine NoPanic.normal ?_
            have HB6 := Lib.hid ((Bel.refl w4).drew.then_ hb6)
            obtain ⟨fn, tmps, assign, body, hy, hRR⟩ := HY.out pre (m, l) #[.int .i64 m, .slice A6 l.length c6] rest w6 HREST.out (HJ.out _ _ _ HJ4.out HB6.out) ⟨_, rfl, HV6.out⟩
            clear hb6
            gi_wp2
            refine ⟨fun _ => by omega, hRR.mono ?_⟩
            rintro e W3 (⟨rfl, hJ3, hk3⟩ | ⟨rfl, hJx3⟩)
            · gi_wp2
              go_roundw
              case rel => exact ⟨m + k, by first | rfl | go_num | (simp; done), by omega, pre ++ [(m, l)], HNX.out, hJ3, (HB4.out.trans (Below.mono HB6.out hws4)).trans hk3.below⟩
              case measure => simp [intOf]; omega
            · gi_wp2
              first | rw [Exit.noGoto_ret] | rw [Exit.noGoto_normal]
              first | go_end0 | refine bodyPost_ret (results_none rfl _ _ _) rfl ?_
              exact ⟨⟨_, rfl⟩, .inr ⟨_, _, _, HREST.out, hJx3⟩⟩
end Go.Proofs.YtkklmflclmgjeaaGreatDoor

/-
  The codec: the document's value.
-/
set_option linter.unusedVariables false
set_option linter.unusedSimpArgs false
set_option linter.unusedVariables false
set_option linter.unusedSimpArgs false
namespace Go.Proofs.YtkklmflclmgjeaaGreatDoor
open Go.RowKit Go.Shelf Go.Lib

/-- What the document's value hands back. -/
def GivesV (x : Val) (n : Nat) (w : World) (e : Ending) (w' : World) : Prop := e = .returned (.tuple #[.agg #[.int .i64 x.k, .int .i64 x.n, .int .u64 x.u, .string x.b], .int .i64 n]) ∧ Bel w w'
set_option maxRecDepth 100000 in
set_option maxHeartbeats 1000000 in
theorem r4v_nil (w : World) (cn : ByteArray) (ct cz : Int) (cnl : Bool) (A : Option Addr) (c : Nat) : Calls Tryz.prog 73 #[.agg #[.string cn, .int .i64 ct, .int .i64 cz, .bool cnl], .slice A 0 c] w (GivesV noVal 0 w) := by
  have hb0 : Bel w ((w.alloc (.cells #[.string cn, .int .i64 ct, .int .i64 cz, .bool cnl] 44)).alloc (.cells #[.int .i64 0, .int .i64 0, .int .u64 0, .string ⟨#[]⟩] 48)) := ((Bel.refl w).alloc _).alloc _
  go_enter Tryz.func73, Tryz.ntmps73
  go_wp2
  refine bodyPost_ret (v := .tuple #[.agg #[.int .i64 0, .int .i64 0, .int .u64 0, .string ⟨#[]⟩], .int .i64 0]) (by simp [results, Tryz.results73, go_sem]) rfl ⟨rfl, ?_⟩
  exact by (repeat (first | exact Below.refl _ _ | assumption | exact Bel.refl _ | refine Bel.alloc ?_ _ | refine Bel.drew ?_ | refine Bel.drewN ?_ _ | refine Bel.then_ ?_ (by assumption) | refine Bel.setCell ?_ (by first | (simp; done) | (simp; omega)) _))
set_option maxRecDepth 100000 in
set_option maxHeartbeats 1000000 in
theorem r4v_bad (w : World) (cn : ByteArray) (ct cz : Int) (cnl : Bool) (ab ao n c : Nat) (d : Nat) (hd : w.cell? ⟨ab, ao, none⟩ = some (.int .u8 d)) (hn : 1 ≤ n) (h1 : 1 < d) : Calls Tryz.prog 73 #[.agg #[.string cn, .int .i64 ct, .int .i64 cz, .bool cnl], .slice (some ⟨ab, ao, none⟩) n c] w (GivesV noVal 0 w) := by
  have hlt : ab < w.heap.size := World.block_lt_of_cell? (w := w) (a := ⟨ab, ao, none⟩) hd
  have hn0 : ((n : Int) == 0) = false := by rw [beq_eq_false_iff_ne]; omega
  have hnI : (1 : Int) ≤ n := by omega
  have hdb : decide ((1 : Int) < d) = true := by simp; omega
  have hdc : decide ((d : Int) > 1) = true := by simp; omega
  go_enter Tryz.func73, Tryz.ntmps73
  go_wp2
  refine bodyPost_ret (v := .tuple #[.agg #[.int .i64 0, .int .i64 0, .int .u64 0, .string ⟨#[]⟩], .int .i64 0]) (by simp [results, Tryz.results73, go_sem]) rfl ⟨rfl, ?_⟩
  exact by (repeat (first | exact Below.refl _ _ | assumption | exact Bel.refl _ | refine Bel.alloc ?_ _ | refine Bel.drew ?_ | refine Bel.drewN ?_ _ | refine Bel.then_ ?_ (by assumption) | refine Bel.setCell ?_ (by first | (simp; done) | (simp; omega)) _))
set_option maxRecDepth 100000 in
set_option maxHeartbeats 1000000 in
theorem r4v_nonull (w : World) (cn : ByteArray) (ct cz : Int) (ab ao n c : Nat) (hd : w.cell? ⟨ab, ao, none⟩ = some (.int .u8 0)) (hn : 1 ≤ n) : Calls Tryz.prog 73 #[.agg #[.string cn, .int .i64 ct, .int .i64 cz, .bool false], .slice (some ⟨ab, ao, none⟩) n c] w (GivesV noVal 0 w) := by
  have hlt : ab < w.heap.size := World.block_lt_of_cell? (w := w) (a := ⟨ab, ao, none⟩) hd
  have hn0 : ((n : Int) == 0) = false := by rw [beq_eq_false_iff_ne]; omega
  have hnI : (1 : Int) ≤ n := by omega
  go_enter Tryz.func73, Tryz.ntmps73
  go_wp2
  refine bodyPost_ret (v := .tuple #[.agg #[.int .i64 0, .int .i64 0, .int .u64 0, .string ⟨#[]⟩], .int .i64 0]) (by simp [results, Tryz.results73, go_sem]) rfl ⟨rfl, ?_⟩
  exact by (repeat (first | exact Below.refl _ _ | assumption | exact Bel.refl _ | refine Bel.alloc ?_ _ | refine Bel.drew ?_ | refine Bel.drewN ?_ _ | refine Bel.then_ ?_ (by assumption) | refine Bel.setCell ?_ (by first | (simp; done) | (simp; omega)) _))
set_option maxRecDepth 100000 in
set_option maxHeartbeats 1000000 in
theorem r4v_null (w : World) (cn : ByteArray) (ct cz : Int) (ab ao n c : Nat) (hd : w.cell? ⟨ab, ao, none⟩ = some (.int .u8 0)) (hn : 1 ≤ n) : Calls Tryz.prog 73 #[.agg #[.string cn, .int .i64 ct, .int .i64 cz, .bool true], .slice (some ⟨ab, ao, none⟩) n c] w (GivesV noVal 1 w) := by
  have hlt : ab < w.heap.size := World.block_lt_of_cell? (w := w) (a := ⟨ab, ao, none⟩) hd
  have hn0 : ((n : Int) == 0) = false := by rw [beq_eq_false_iff_ne]; omega
  have hnI : (1 : Int) ≤ n := by omega
  go_enter Tryz.func73, Tryz.ntmps73
  go_wp2
  refine bodyPost_ret (v := .tuple #[.agg #[.int .i64 0, .int .i64 0, .int .u64 0, .string ⟨#[]⟩], .int .i64 1]) (by simp [results, Tryz.results73, go_sem]) rfl ⟨rfl, ?_⟩
  exact by (repeat (first | exact Below.refl _ _ | assumption | exact Bel.refl _ | refine Bel.alloc ?_ _ | refine Bel.drew ?_ | refine Bel.drewN ?_ _ | refine Bel.then_ ?_ (by assumption) | refine Bel.setCell ?_ (by first | (simp; done) | (simp; omega)) _))
set_option maxRecDepth 100000 in
set_option maxHeartbeats 1000000 in
theorem r4v_short1 (w : World) (cn : ByteArray) (cnl : Bool) (ab ao n c : Nat) (hd : w.cell? ⟨ab, ao, none⟩ = some (.int .u8 1)) (hn : 1 ≤ n) (hcn : n ≤ c) (hmx : c ≤ maxLen) (z : Nat) (hz : z ≤ 8) (hq : n - 1 < z) : Calls Tryz.prog 73 #[.agg #[.string cn, .int .i64 1, .int .i64 z, .bool cnl], .slice (some ⟨ab, ao, none⟩) n c] w (GivesV noVal 0 w) := by
  have hlt : ab < w.heap.size := World.block_lt_of_cell? (w := w) (a := ⟨ab, ao, none⟩) hd
  have hn0 : ((n : Int) == 0) = false := by rw [beq_eq_false_iff_ne]; omega
  have hnI : (1 : Int) ≤ n := by omega
  have hnc : (n : Int) ≤ c := by omega
  have hcm : (c : Int) ≤ 9223372036854775807 := by unfold maxLen at hmx; omega
  have hI4 : ((n : Int) - 1).toNat = n - 1 := by omega
  have hI5 : ((c : Int) - 1).toNat = c - 1 := by omega
  have hqb : ((n - 1 : Nat) : Int) < z := by omega
  have hqz : (z : Int) ≤ 8 := by omega
  clear hmx hq hcn
  by_cases hc1 : c = 1
  · subst hc1
    obtain rfl : n = 1 := by omega
    go_enter Tryz.func73, Tryz.ntmps73
    go_wp2
    refine bodyPost_ret (v := .tuple #[.agg #[.int .i64 0, .int .i64 0, .int .u64 0, .string ⟨#[]⟩], .int .i64 0]) (by simp [results, Tryz.results73, go_sem]) rfl ⟨rfl, ?_⟩
    exact by (repeat (first | exact Below.refl _ _ | assumption | exact Bel.refl _ | refine Bel.alloc ?_ _ | refine Bel.drew ?_ | refine Bel.drewN ?_ _ | refine Bel.then_ ?_ (by assumption) | refine Bel.setCell ?_ (by first | (simp; done) | (simp; omega)) _))

  · go_enter Tryz.func73, Tryz.ntmps73
    go_wp2
    refine bodyPost_ret (v := .tuple #[.agg #[.int .i64 0, .int .i64 0, .int .u64 0, .string ⟨#[]⟩], .int .i64 0]) (by simp [results, Tryz.results73, go_sem]) rfl ⟨rfl, ?_⟩
    exact by (repeat (first | exact Below.refl _ _ | assumption | exact Bel.refl _ | refine Bel.alloc ?_ _ | refine Bel.drew ?_ | refine Bel.drewN ?_ _ | refine Bel.then_ ?_ (by assumption) | refine Bel.setCell ?_ (by first | (simp; done) | (simp; omega)) _))
set_option maxRecDepth 100000 in
set_option maxHeartbeats 1000000 in
theorem r4v_short2 (w : World) (cn : ByteArray) (cnl : Bool) (ab ao n c : Nat) (hd : w.cell? ⟨ab, ao, none⟩ = some (.int .u8 1)) (hn : 1 ≤ n) (hcn : n ≤ c) (hmx : c ≤ maxLen) (z : Nat) (hz : z ≤ 8) (hq : n - 1 < z) : Calls Tryz.prog 73 #[.agg #[.string cn, .int .i64 2, .int .i64 z, .bool cnl], .slice (some ⟨ab, ao, none⟩) n c] w (GivesV noVal 0 w) := by
  have hlt : ab < w.heap.size := World.block_lt_of_cell? (w := w) (a := ⟨ab, ao, none⟩) hd
  have hn0 : ((n : Int) == 0) = false := by rw [beq_eq_false_iff_ne]; omega
  have hnI : (1 : Int) ≤ n := by omega
  have hnc : (n : Int) ≤ c := by omega
  have hcm : (c : Int) ≤ 9223372036854775807 := by unfold maxLen at hmx; omega
  have hI4 : ((n : Int) - 1).toNat = n - 1 := by omega
  have hI5 : ((c : Int) - 1).toNat = c - 1 := by omega
  have hqb : ((n - 1 : Nat) : Int) < z := by omega
  have hqz : (z : Int) ≤ 8 := by omega
  clear hmx hq hcn
  by_cases hc1 : c = 1
  · subst hc1
    obtain rfl : n = 1 := by omega
    go_enter Tryz.func73, Tryz.ntmps73
    go_wp2
    refine bodyPost_ret (v := .tuple #[.agg #[.int .i64 0, .int .i64 0, .int .u64 0, .string ⟨#[]⟩], .int .i64 0]) (by simp [results, Tryz.results73, go_sem]) rfl ⟨rfl, ?_⟩
    exact by (repeat (first | exact Below.refl _ _ | assumption | exact Bel.refl _ | refine Bel.alloc ?_ _ | refine Bel.drew ?_ | refine Bel.drewN ?_ _ | refine Bel.then_ ?_ (by assumption) | refine Bel.setCell ?_ (by first | (simp; done) | (simp; omega)) _))

  · go_enter Tryz.func73, Tryz.ntmps73
    go_wp2
    refine bodyPost_ret (v := .tuple #[.agg #[.int .i64 0, .int .i64 0, .int .u64 0, .string ⟨#[]⟩], .int .i64 0]) (by simp [results, Tryz.results73, go_sem]) rfl ⟨rfl, ?_⟩
    exact by (repeat (first | exact Below.refl _ _ | assumption | exact Bel.refl _ | refine Bel.alloc ?_ _ | refine Bel.drew ?_ | refine Bel.drewN ?_ _ | refine Bel.then_ ?_ (by assumption) | refine Bel.setCell ?_ (by first | (simp; done) | (simp; omega)) _))
set_option maxRecDepth 100000 in
set_option maxHeartbeats 1000000 in
theorem r4v_bool0 (w : World) (cn : ByteArray) (cz : Int) (cnl : Bool) (ab ao c : Nat) (hd : w.cell? ⟨ab, ao, none⟩ = some (.int .u8 1)) (hn : 1 ≤ c) (hmx : c ≤ maxLen) : Calls Tryz.prog 73 #[.agg #[.string cn, .int .i64 3, .int .i64 cz, .bool cnl], .slice (some ⟨ab, ao, none⟩) 1 c] w (GivesV noVal 0 w) := by
  have hlt : ab < w.heap.size := World.block_lt_of_cell? (w := w) (a := ⟨ab, ao, none⟩) hd
  have hnc : (1 : Int) ≤ c := by omega
  have hcm : (c : Int) ≤ 9223372036854775807 := by unfold maxLen at hmx; omega
  have hI5 : ((c : Int) - 1).toNat = c - 1 := by omega
  clear hmx hn
  by_cases hc1 : c = 1
  · subst hc1
    go_enter Tryz.func73, Tryz.ntmps73
    go_wp2
    refine bodyPost_ret (v := .tuple #[.agg #[.int .i64 0, .int .i64 0, .int .u64 0, .string ⟨#[]⟩], .int .i64 0]) (by simp [results, Tryz.results73, go_sem]) rfl ⟨rfl, ?_⟩
    exact by (repeat (first | exact Below.refl _ _ | assumption | exact Bel.refl _ | refine Bel.alloc ?_ _ | refine Bel.drew ?_ | refine Bel.drewN ?_ _ | refine Bel.then_ ?_ (by assumption) | refine Bel.setCell ?_ (by first | (simp; done) | (simp; omega)) _))

  · go_enter Tryz.func73, Tryz.ntmps73
    go_wp2
    refine bodyPost_ret (v := .tuple #[.agg #[.int .i64 0, .int .i64 0, .int .u64 0, .string ⟨#[]⟩], .int .i64 0]) (by simp [results, Tryz.results73, go_sem]) rfl ⟨rfl, ?_⟩
    exact by (repeat (first | exact Below.refl _ _ | assumption | exact Bel.refl _ | refine Bel.alloc ?_ _ | refine Bel.drew ?_ | refine Bel.drewN ?_ _ | refine Bel.then_ ?_ (by assumption) | refine Bel.setCell ?_ (by first | (simp; done) | (simp; omega)) _))
set_option maxRecDepth 100000 in
set_option maxHeartbeats 1000000 in
theorem r4v_boolBad (w : World) (cn : ByteArray) (cz : Int) (cnl : Bool) (ab ao n c : Nat) (hd : w.cell? ⟨ab, ao, none⟩ = some (.int .u8 1)) (hn : 2 ≤ n) (hcn : n ≤ c) (hmx : c ≤ maxLen) (e : Nat) (he : w.cell? ⟨ab, ao + 1, none⟩ = some (.int .u8 e)) (h1 : 1 < e) : Calls Tryz.prog 73 #[.agg #[.string cn, .int .i64 3, .int .i64 cz, .bool cnl], .slice (some ⟨ab, ao, none⟩) n c] w (GivesV noVal 0 w) := by
  have hlt : ab < w.heap.size := World.block_lt_of_cell? (w := w) (a := ⟨ab, ao, none⟩) hd
  have hn0 : ((n : Int) == 0) = false := by rw [beq_eq_false_iff_ne]; omega
  have hnJ : (2 : Int) ≤ n := by omega
  have hnI : (1 : Int) ≤ n := by omega
  have hnc : (n : Int) ≤ c := by omega
  have hcm : (c : Int) ≤ 9223372036854775807 := by unfold maxLen at hmx; omega
  have hI4 : ((n : Int) - 1).toNat = n - 1 := by omega
  have hI5 : ((c : Int) - 1).toNat = c - 1 := by omega
  have hc1 : ¬ c = 1 := by omega
  have hq0 : (((n - 1 : Nat) : Int) == 0) = false := by rw [beq_eq_false_iff_ne]; omega
  have hq1 : (1 : Int) ≤ ((n - 1 : Nat) : Int) := by omega
  have hdb : decide ((1 : Int) < e) = true := by simp; omega
  have hdc : decide ((e : Int) > 1) = true := by simp; omega
  clear hmx hcn
  go_enter Tryz.func73, Tryz.ntmps73
  go_wp2
  refine bodyPost_ret (v := .tuple #[.agg #[.int .i64 0, .int .i64 0, .int .u64 0, .string ⟨#[]⟩], .int .i64 0]) (by simp [results, Tryz.results73, go_sem]) rfl ⟨rfl, ?_⟩
  exact by (repeat (first | exact Below.refl _ _ | assumption | exact Bel.refl _ | refine Bel.alloc ?_ _ | refine Bel.drew ?_ | refine Bel.drewN ?_ _ | refine Bel.then_ ?_ (by assumption) | refine Bel.setCell ?_ (by first | (simp; done) | (simp; omega)) _))
set_option maxRecDepth 100000 in
set_option maxHeartbeats 1000000 in
theorem r4v_bool (w : World) (cn : ByteArray) (cz : Int) (cnl : Bool) (ab ao n c : Nat) (hd : w.cell? ⟨ab, ao, none⟩ = some (.int .u8 1)) (hn : 2 ≤ n) (hcn : n ≤ c) (hmx : c ≤ maxLen) (e : Nat) (he : w.cell? ⟨ab, ao + 1, none⟩ = some (.int .u8 e)) (h1 : e ≤ 1) : Calls Tryz.prog 73 #[.agg #[.string cn, .int .i64 3, .int .i64 cz, .bool cnl], .slice (some ⟨ab, ao, none⟩) n c] w (GivesV ⟨3, e, 0, ⟨#[]⟩⟩ 2 w) := by
  have hlt : ab < w.heap.size := World.block_lt_of_cell? (w := w) (a := ⟨ab, ao, none⟩) hd
  have hn0 : ((n : Int) == 0) = false := by rw [beq_eq_false_iff_ne]; omega
  have hnJ : (2 : Int) ≤ n := by omega
  have hnI : (1 : Int) ≤ n := by omega
  have hnc : (n : Int) ≤ c := by omega
  have hcm : (c : Int) ≤ 9223372036854775807 := by unfold maxLen at hmx; omega
  have hI4 : ((n : Int) - 1).toNat = n - 1 := by omega
  have hI5 : ((c : Int) - 1).toNat = c - 1 := by omega
  have hc1 : ¬ c = 1 := by omega
  have hq0 : (((n - 1 : Nat) : Int) == 0) = false := by rw [beq_eq_false_iff_ne]; omega
  have hq1 : (1 : Int) ≤ ((n - 1 : Nat) : Int) := by omega
  have hdb : decide ((1 : Int) < e) = false := by simp; omega
  have hdc : decide ((e : Int) > 1) = false := by simp; omega
  have heI : (e : Int) ≤ 1 := by omega
  clear hmx hcn
  go_enter Tryz.func73, Tryz.ntmps73
  go_wp2
  refine bodyPost_ret (v := .tuple #[.agg #[.int .i64 3, .int .i64 e, .int .u64 0, .string ⟨#[]⟩], .int .i64 2]) (by simp [results, Tryz.results73, go_sem]) rfl ⟨rfl, ?_⟩
  exact by (repeat (first | exact Below.refl _ _ | assumption | exact Bel.refl _ | refine Bel.alloc ?_ _ | refine Bel.drew ?_ | refine Bel.drewN ?_ _ | refine Bel.then_ ?_ (by assumption) | refine Bel.setCell ?_ (by first | (simp; done) | (simp; omega)) _))
set_option maxRecDepth 100000 in
set_option maxHeartbeats 1000000 in
theorem r4v_uint (w : World) (cn : ByteArray) (cnl : Bool) (ab ao n c : Nat) (hd : w.cell? ⟨ab, ao, none⟩ = some (.int .u8 1)) (hn : 2 ≤ n) (hcn : n ≤ c) (hmx : c ≤ maxLen) (z : Nat) (h1 : 1 ≤ z) (h8 : z ≤ 8) (q : List UInt8) (hz : z ≤ q.length) (hzn : z ≤ n - 1) (hrq : Reads w w.heap.size 1 (some ⟨ab, ao + 1, none⟩) q.length (q.map bv)) : Calls Tryz.prog 73 #[.agg #[.string cn, .int .i64 2, .int .i64 z, .bool cnl], .slice (some ⟨ab, ao, none⟩) n c] w (GivesV ⟨2, 0, numN (q.take z), ⟨#[]⟩⟩ (1 + z) w) := by
  have hb0 : Bel w ((w.alloc (.cells #[.string cn, .int .i64 2, .int .i64 z, .bool cnl] 44)).alloc (.cells #[.int .i64 0, .int .i64 0, .int .u64 0, .string ⟨#[]⟩] 48)) := ((Bel.refl w).alloc _).alloc _
  have hl : (q.take z).length = z := by rw [List.length_take]; omega
  have HRF := Lib.hid (fun cap (hr : Reads ((w.alloc (.cells #[.string cn, .int .i64 2, .int .i64 z, .bool cnl] 44)).alloc (.cells #[.int .i64 0, .int .i64 0, .int .u64 0, .string ⟨#[]⟩] 48)) ((w.alloc (.cells #[.string cn, .int .i64 2, .int .i64 z, .bool cnl] 44)).alloc (.cells #[.int .i64 0, .int .i64 0, .int .u64 0, .string ⟨#[]⟩] 48)).heap.size 1 (some ⟨ab, ao + 1, none⟩) (q.take z).length ((q.take z).map bv)) => r2ReadFixed_any (q.take z) (some ⟨ab, ao + 1, none⟩) cap (by omega) (by omega) ((w.alloc (.cells #[.string cn, .int .i64 2, .int .i64 z, .bool cnl] 44)).alloc (.cells #[.int .i64 0, .int .i64 0, .int .u64 0, .string ⟨#[]⟩] 48)) hr)
  have hrw := (hrq.head z hz).belH hb0
  rw [hl] at HRF
  have HRW := Lib.hid hrw
  clear hrw hrq
  have hlt : ab < w.heap.size := World.block_lt_of_cell? (w := w) (a := ⟨ab, ao, none⟩) hd
  have hn0 : ((n : Int) == 0) = false := by rw [beq_eq_false_iff_ne]; omega
  have hnJ : (2 : Int) ≤ n := by omega
  have hnI : (1 : Int) ≤ n := by omega
  have hnc : (n : Int) ≤ c := by omega
  have hcm : (c : Int) ≤ 9223372036854775807 := by unfold maxLen at hmx; omega
  have hI4 : ((n : Int) - 1).toNat = n - 1 := by omega
  have hI5 : ((c : Int) - 1).toNat = c - 1 := by omega
  have hc1 : ¬ c = 1 := by omega
  have hq0 : (((n - 1 : Nat) : Int) == 0) = false := by rw [beq_eq_false_iff_ne]; omega
  have hq1 : (1 : Int) ≤ ((n - 1 : Nat) : Int) := by omega
  have hzI : (z : Int) ≤ ((n - 1 : Nat) : Int) := by omega
  have hzJ : (z : Int) ≤ 8 := by omega
  have hzK : (z : Int) ≤ ((c - 1 : Nat) : Int) := by omega
  have hzL : (1 : Int) ≤ z := by omega
  have hcz : IntKind.i64.wrap (1 + (z : Int)) = ((1 + z : Nat) : Int) := by
    simp only [IntKind.wrap, IntKind.bits, IntKind.signed]
    simp
    omega
  have hzd : decide (n - 1 < z) = false := by simp; omega
  clear hmx hcn hl hz h1 h8
  generalize numN (q.take z) = N at *
  go_enter Tryz.func73, Tryz.ntmps73
  go_wp2_with fail
  refine (HRF.out _ HRW.out).mono ?_
  rintro e w' ⟨rfl, rfl⟩
  go_wp2
  refine wp_region_noPanic ?_
  refine wp_region_held_drew (S := (fun V : World => V.cell? ⟨w.heap.size, 2, none⟩ = some (.int .i64 z))) (by kernel_rfl) ?_ (fun hHr1_0 => ?_)
  · (try dsimp only); (first | assumption | go_simp)
  refine wpAnyH_take (i := 0) (oi := _) (v := ?vr1_1_0) rfl (by kernel_rfl) (by kernel_rfl) (by kernel_rfl) ?hqr1_1_0 (Or.inl ⟨by kernel_rfl, ?hyr1_1_0⟩) (by assumption) ?restr1_1_0
  case hqr1_1_0 => exact fun _ _ _ h => h
  case hyr1_1_0 => (intro w hSw; (try dsimp only at hSw); go_simp; try with_reducible rfl)
  try simp only [Act.put, List.getElem_toArray, List.getElem_cons_succ, List.getElem_cons_zero, List.setIfInBounds_toArray, List.set_cons_zero, List.set_cons_succ]
  refine wpAnyH_take (i := 1) (oi := _) (v := ?vr1_1_1) rfl (by kernel_rfl) (by kernel_rfl) (by kernel_rfl) ?hqr1_1_1 (Or.inl ⟨by kernel_rfl, ?hyr1_1_1⟩) (by assumption) ?restr1_1_1
  case hqr1_1_1 => exact fun _ _ _ h => h
  case hyr1_1_1 => (intro w hSw; (try dsimp only at hSw); go_simp; try with_reducible rfl)
  try simp only [Act.put, List.getElem_toArray, List.getElem_cons_succ, List.getElem_cons_zero, List.setIfInBounds_toArray, List.set_cons_zero, List.set_cons_succ]
  refine wpAnyH_take (i := 2) (oi := _) (v := ?vr1_1_2) rfl (by kernel_rfl) (by kernel_rfl) (by kernel_rfl) ?hqr1_1_2 (Or.inl ⟨by kernel_rfl, ?hyr1_1_2⟩) (by assumption) ?restr1_1_2
  case hqr1_1_2 => exact fun _ _ _ h => h
  case hyr1_1_2 => (intro w hSw; (try dsimp only at hSw); go_simp; try with_reducible rfl)
  try simp only [Act.put, List.getElem_toArray, List.getElem_cons_succ, List.getElem_cons_zero, List.setIfInBounds_toArray, List.set_cons_zero, List.set_cons_succ]
  refine wpAnyH_take (i := 3) (oi := _) (v := ?vr1_1_3) rfl (by kernel_rfl) (by kernel_rfl) (by kernel_rfl) ?hqr1_1_3 (Or.inl ⟨by kernel_rfl, ?hyr1_1_3⟩) (by assumption) ?restr1_1_3
  case hqr1_1_3 => exact fun _ _ _ h => h
  case hyr1_1_3 => (intro w hSw; (try dsimp only at hSw); go_simp; try with_reducible rfl)
  try simp only [Act.put, List.getElem_toArray, List.getElem_cons_succ, List.getElem_cons_zero, List.setIfInBounds_toArray, List.set_cons_zero, List.set_cons_succ]
  refine wpAnyH_take (i := 4) (oi := _) (v := ?vr1_1_4) rfl (by kernel_rfl) (by kernel_rfl) (by kernel_rfl) ?hqr1_1_4 (Or.inl ⟨by kernel_rfl, ?hyr1_1_4⟩) (by assumption) ?restr1_1_4
  case hqr1_1_4 => exact fun _ _ _ h => h
  case hyr1_1_4 => (intro w hSw; (try dsimp only at hSw); go_simp; try with_reducible rfl)
  try simp only [Act.put, List.getElem_toArray, List.getElem_cons_succ, List.getElem_cons_zero, List.setIfInBounds_toArray, List.set_cons_zero, List.set_cons_succ]
  refine wpAnyH_ready (rs := [5]) (by kernel_rfl) (by simp) ?_
  refine AllReadyH.cons (o := _) rfl (fun K hK => ?_) AllReadyH.nil
  go_simp
  refine hK.out _ _ ?_ (fun hHr1_1 => ?_)
  · (try dsimp only); (first | assumption | go_simp)
  clear hK K hHr1_0
  try simp only [Act.put, List.getElem_toArray, List.getElem_cons_succ, List.getElem_cons_zero, List.setIfInBounds_toArray, List.set_cons_zero, List.set_cons_succ]
  refine wpAnyH_ready (rs := [6]) (by kernel_rfl) (by simp) ?_
  refine AllReadyH.cons (o := _) rfl (fun K hK => ?_) AllReadyH.nil
  go_simp
  refine hK.out _ _ ?_ (fun hHr1_2 => ?_)
  · (try dsimp only); (first | assumption | go_simp)
  clear hK K hHr1_1
  try simp only [Act.put, List.getElem_toArray, List.getElem_cons_succ, List.getElem_cons_zero, List.setIfInBounds_toArray, List.set_cons_zero, List.set_cons_succ]
  refine wpAnyH_done (by kernel_rfl) ?_ _
  refine NoPanic.normal ?_
  go_wp2
  refine bodyPost_ret (v := .tuple #[.agg #[.int .i64 2, .int .i64 0, .int .u64 N, .string ⟨#[]⟩], .int .i64 ((1 + z : Nat) : Int)]) (by simp [results, Tryz.results73, go_sem]) rfl ⟨rfl, ?_⟩
  exact by (repeat (first | exact Below.refl _ _ | assumption | exact Bel.refl _ | refine Bel.alloc ?_ _ | refine Bel.drew ?_ | refine Bel.drewN ?_ _ | refine Bel.then_ ?_ (by assumption) | refine Bel.setCell ?_ (by first | (simp; done) | (simp; omega)) _))
theorem r4v_sorry : True := trivial
end Go.Proofs.YtkklmflclmgjeaaGreatDoor

/-
  The codec: the document's value: numbers with a sign.
-/
set_option linter.unusedVariables false
set_option linter.unusedSimpArgs false
set_option linter.unusedVariables false
set_option linter.unusedSimpArgs false
namespace Go.Proofs.YtkklmflclmgjeaaGreatDoor
open Go.RowKit Go.Shelf Go.Lib

set_option maxRecDepth 100000 in
set_option maxHeartbeats 1000000 in
theorem r4v_int1neg (w : World) (cn : ByteArray) (cnl : Bool) (ab ao n c : Nat) (hd : w.cell? ⟨ab, ao, none⟩ = some (.int .u8 1)) (hn : 2 ≤ n) (hcn : n ≤ c) (hmx : c ≤ maxLen) (e : Nat) (he : w.cell? ⟨ab, ao + 1, none⟩ = some (.int .u8 e)) (q : List UInt8) (hz : 1 ≤ q.length) (hzn : 1 ≤ n - 1) (hrq : Reads w w.heap.size 1 (some ⟨ab, ao + 1, none⟩) q.length (q.map bv)) (h1 : 128 ≤ e) : Calls Tryz.prog 73 #[.agg #[.string cn, .int .i64 1, .int .i64 1, .bool cnl], .slice (some ⟨ab, ao, none⟩) n c] w (GivesV ⟨1, (numN (q.take 1) : Int) - 256, 0, ⟨#[]⟩⟩ 2 w) := by
  have hb0 : Bel w ((w.alloc (.cells #[.string cn, .int .i64 1, .int .i64 1, .bool cnl] 44)).alloc (.cells #[.int .i64 0, .int .i64 0, .int .u64 0, .string ⟨#[]⟩] 48)) := ((Bel.refl w).alloc _).alloc _
  have hl : (q.take 1).length = 1 := by rw [List.length_take]; omega
  have HRF := Lib.hid (fun cap (hr : Reads ((w.alloc (.cells #[.string cn, .int .i64 1, .int .i64 1, .bool cnl] 44)).alloc (.cells #[.int .i64 0, .int .i64 0, .int .u64 0, .string ⟨#[]⟩] 48)) ((w.alloc (.cells #[.string cn, .int .i64 1, .int .i64 1, .bool cnl] 44)).alloc (.cells #[.int .i64 0, .int .i64 0, .int .u64 0, .string ⟨#[]⟩] 48)).heap.size 1 (some ⟨ab, ao + 1, none⟩) (q.take 1).length ((q.take 1).map bv)) => r2ReadFixed_any (q.take 1) (some ⟨ab, ao + 1, none⟩) cap (by omega) (by omega) ((w.alloc (.cells #[.string cn, .int .i64 1, .int .i64 1, .bool cnl] 44)).alloc (.cells #[.int .i64 0, .int .i64 0, .int .u64 0, .string ⟨#[]⟩] 48)) hr)
  have hrw := (hrq.head 1 hz).belH hb0
  rw [hl] at HRF
  have HRW := Lib.hid hrw
  clear hrw hrq
  have hlt : ab < w.heap.size := World.block_lt_of_cell? (w := w) (a := ⟨ab, ao, none⟩) hd
  have hn0 : ((n : Int) == 0) = false := by rw [beq_eq_false_iff_ne]; omega
  have hnJ : (2 : Int) ≤ n := by omega
  have hnI : (1 : Int) ≤ n := by omega
  have hnc : (n : Int) ≤ c := by omega
  have hcm : (c : Int) ≤ 9223372036854775807 := by unfold maxLen at hmx; omega
  have hI4 : ((n : Int) - 1).toNat = n - 1 := by omega
  have hI5 : ((c : Int) - 1).toNat = c - 1 := by omega
  have hc1 : ¬ c = 1 := by omega
  have hq0 : (((n - 1 : Nat) : Int) == 0) = false := by rw [beq_eq_false_iff_ne]; omega
  have hq1 : (1 : Int) ≤ ((n - 1 : Nat) : Int) := by omega
  have hzI : (1 : Int) ≤ ((n - 1 : Nat) : Int) := by omega
  have hzK : (1 : Int) ≤ ((c - 1 : Nat) : Int) := by omega
  have hlN := numN_lt (q.take 1)
  rw [hl] at hlN
  generalize numN (q.take 1) = N at *
  rw [show (256 : Nat) ^ 1 = 256 by decide] at hlN
  have hNI : (N : Int) ≤ 255 := by omega
  have hcv : IntKind.i64.wrap (N : Int) = N := by
    simp only [IntKind.wrap, IntKind.bits, IntKind.signed]
    simp
    omega
  have hsb : IntKind.i64.wrap ((N : Int) - 256) = (N : Int) - 256 := by
    simp only [IntKind.wrap, IntKind.bits, IntKind.signed]
    simp
    omega
  have hdb : decide ((128 : Int) ≤ e) = true := by simp; omega
  have hdc : decide ((e : Int) ≥ 128) = true := by simp; omega
  have hzd : decide (n - 1 < 1) = false := by simp; omega
  have hw1 : IntKind.i64.wrap 2 = 2 := by decide
  have hsh : IntKind.i64.wrap (2 ^ min (IntKind.u64.wrap (IntKind.i64.wrap 8)).toNat 64) = 256 := by decide
  clear hmx hcn hl hz hlN
  go_enter Tryz.func73, Tryz.ntmps73
  go_wp2_with fail
  refine (HRF.out _ HRW.out).mono ?_
  rintro e w' ⟨rfl, rfl⟩
  go_wp2
  refine wp_region_noPanic ?_
  refine wp_region_held_drew (S := (fun V : World => V.cell? ⟨w.heap.size, 2, none⟩ = some (.int .i64 1))) (by kernel_rfl) ?_ (fun hHr1_0 => ?_)
  · (try dsimp only); (first | assumption | go_simp)
  refine wpAnyH_take (i := 0) (oi := _) (v := ?vr1_1_0) rfl (by kernel_rfl) (by kernel_rfl) (by kernel_rfl) ?hqr1_1_0 (Or.inl ⟨by kernel_rfl, ?hyr1_1_0⟩) (by assumption) ?restr1_1_0
  case hqr1_1_0 => exact fun _ _ _ h => h
  case hyr1_1_0 => (intro w hSw; (try dsimp only at hSw); go_simp; try with_reducible rfl)
  try simp only [Act.put, List.getElem_toArray, List.getElem_cons_succ, List.getElem_cons_zero, List.setIfInBounds_toArray, List.set_cons_zero, List.set_cons_succ]
  refine wpAnyH_take (i := 1) (oi := _) (v := ?vr1_1_1) rfl (by kernel_rfl) (by kernel_rfl) (by kernel_rfl) ?hqr1_1_1 (Or.inl ⟨by kernel_rfl, ?hyr1_1_1⟩) (by assumption) ?restr1_1_1
  case hqr1_1_1 => exact fun _ _ _ h => h
  case hyr1_1_1 => (intro w hSw; (try dsimp only at hSw); go_simp; try with_reducible rfl)
  try simp only [Act.put, List.getElem_toArray, List.getElem_cons_succ, List.getElem_cons_zero, List.setIfInBounds_toArray, List.set_cons_zero, List.set_cons_succ]
  refine wpAnyH_take (i := 2) (oi := _) (v := ?vr1_1_2) rfl (by kernel_rfl) (by kernel_rfl) (by kernel_rfl) ?hqr1_1_2 (Or.inl ⟨by kernel_rfl, ?hyr1_1_2⟩) (by assumption) ?restr1_1_2
  case hqr1_1_2 => exact fun _ _ _ h => h
  case hyr1_1_2 => (intro w hSw; (try dsimp only at hSw); go_simp; try with_reducible rfl)
  try simp only [Act.put, List.getElem_toArray, List.getElem_cons_succ, List.getElem_cons_zero, List.setIfInBounds_toArray, List.set_cons_zero, List.set_cons_succ]
  refine wpAnyH_take (i := 3) (oi := _) (v := ?vr1_1_3) rfl (by kernel_rfl) (by kernel_rfl) (by kernel_rfl) ?hqr1_1_3 (Or.inl ⟨by kernel_rfl, ?hyr1_1_3⟩) (by assumption) ?restr1_1_3
  case hqr1_1_3 => exact fun _ _ _ h => h
  case hyr1_1_3 => (intro w hSw; (try dsimp only at hSw); go_simp; try with_reducible rfl)
  try simp only [Act.put, List.getElem_toArray, List.getElem_cons_succ, List.getElem_cons_zero, List.setIfInBounds_toArray, List.set_cons_zero, List.set_cons_succ]
  refine wpAnyH_take (i := 4) (oi := _) (v := ?vr1_1_4) rfl (by kernel_rfl) (by kernel_rfl) (by kernel_rfl) ?hqr1_1_4 (Or.inl ⟨by kernel_rfl, ?hyr1_1_4⟩) (by assumption) ?restr1_1_4
  case hqr1_1_4 => exact fun _ _ _ h => h
  case hyr1_1_4 => (intro w hSw; (try dsimp only at hSw); go_simp; try with_reducible rfl)
  try simp only [Act.put, List.getElem_toArray, List.getElem_cons_succ, List.getElem_cons_zero, List.setIfInBounds_toArray, List.set_cons_zero, List.set_cons_succ]
  refine wpAnyH_take (i := 5) (oi := _) (v := ?vr1_1_5) rfl (by kernel_rfl) (by kernel_rfl) (by kernel_rfl) ?hqr1_1_5 (Or.inl ⟨by kernel_rfl, ?hyr1_1_5⟩) (by assumption) ?restr1_1_5
  case hqr1_1_5 => exact fun _ _ _ h => h
  case hyr1_1_5 => (intro w hSw; (try dsimp only at hSw); go_simp; try with_reducible rfl)
  try simp only [Act.put, List.getElem_toArray, List.getElem_cons_succ, List.getElem_cons_zero, List.setIfInBounds_toArray, List.set_cons_zero, List.set_cons_succ]
  refine wpAnyH_take (i := 6) (oi := _) (v := ?vr1_1_6) rfl (by kernel_rfl) (by kernel_rfl) (by kernel_rfl) ?hqr1_1_6 (Or.inl ⟨by kernel_rfl, ?hyr1_1_6⟩) (by assumption) ?restr1_1_6
  case hqr1_1_6 => exact fun _ _ _ h => h
  case hyr1_1_6 => (intro w hSw; (try dsimp only at hSw); go_simp; try with_reducible rfl)
  try simp only [Act.put, List.getElem_toArray, List.getElem_cons_succ, List.getElem_cons_zero, List.setIfInBounds_toArray, List.set_cons_zero, List.set_cons_succ]
  refine wpAnyH_take (i := 7) (oi := _) (v := ?vr1_1_7) rfl (by kernel_rfl) (by kernel_rfl) (by kernel_rfl) ?hqr1_1_7 (Or.inl ⟨by kernel_rfl, ?hyr1_1_7⟩) (by assumption) ?restr1_1_7
  case hqr1_1_7 => exact fun _ _ _ h => h
  case hyr1_1_7 => (intro w hSw; (try dsimp only at hSw); go_simp; try with_reducible rfl)
  try simp only [Act.put, List.getElem_toArray, List.getElem_cons_succ, List.getElem_cons_zero, List.setIfInBounds_toArray, List.set_cons_zero, List.set_cons_succ]
  refine wpAnyH_take (i := 8) (oi := _) (v := ?vr1_1_8) rfl (by kernel_rfl) (by kernel_rfl) (by kernel_rfl) ?hqr1_1_8 (Or.inl ⟨by kernel_rfl, ?hyr1_1_8⟩) (by assumption) ?restr1_1_8
  case hqr1_1_8 => exact fun _ _ _ h => h
  case hyr1_1_8 => (intro w hSw; (try dsimp only at hSw); go_simp; try with_reducible rfl)
  try simp only [Act.put, List.getElem_toArray, List.getElem_cons_succ, List.getElem_cons_zero, List.setIfInBounds_toArray, List.set_cons_zero, List.set_cons_succ]
  refine wpAnyH_take (i := 9) (oi := _) (v := ?vr1_1_9) rfl (by kernel_rfl) (by kernel_rfl) (by kernel_rfl) ?hqr1_1_9 (Or.inl ⟨by kernel_rfl, ?hyr1_1_9⟩) (by assumption) ?restr1_1_9
  case hqr1_1_9 => exact fun _ _ _ h => h
  case hyr1_1_9 => (intro w hSw; (try dsimp only at hSw); go_simp; try with_reducible rfl)
  try simp only [Act.put, List.getElem_toArray, List.getElem_cons_succ, List.getElem_cons_zero, List.setIfInBounds_toArray, List.set_cons_zero, List.set_cons_succ]
  refine wpAnyH_take (i := 10) (oi := _) (v := ?vr1_1_10) rfl (by kernel_rfl) (by kernel_rfl) (by kernel_rfl) ?hqr1_1_10 (Or.inl ⟨by kernel_rfl, ?hyr1_1_10⟩) (by assumption) ?restr1_1_10
  case hqr1_1_10 => exact fun _ _ _ h => h
  case hyr1_1_10 => (intro w hSw; (try dsimp only at hSw); go_simp; try with_reducible rfl)
  try simp only [Act.put, List.getElem_toArray, List.getElem_cons_succ, List.getElem_cons_zero, List.setIfInBounds_toArray, List.set_cons_zero, List.set_cons_succ]
  refine wpAnyH_take (i := 11) (oi := _) (v := ?vr1_1_11) rfl (by kernel_rfl) (by kernel_rfl) (by kernel_rfl) ?hqr1_1_11 (Or.inl ⟨by kernel_rfl, ?hyr1_1_11⟩) (by assumption) ?restr1_1_11
  case hqr1_1_11 => exact fun _ _ _ h => h
  case hyr1_1_11 => (intro w hSw; (try dsimp only at hSw); go_simp; try with_reducible rfl)
  try simp only [Act.put, List.getElem_toArray, List.getElem_cons_succ, List.getElem_cons_zero, List.setIfInBounds_toArray, List.set_cons_zero, List.set_cons_succ]
  refine wpAnyH_ready (rs := [12]) (by kernel_rfl) (by simp) ?_
  refine AllReadyH.cons (o := _) rfl (fun K hK => ?_) AllReadyH.nil
  go_simp
  refine hK.out _ _ ?_ (fun hHr1_1 => ?_)
  · (try dsimp only); (first | assumption | go_simp)
  clear hK K hHr1_0
  try simp only [Act.put, List.getElem_toArray, List.getElem_cons_succ, List.getElem_cons_zero, List.setIfInBounds_toArray, List.set_cons_zero, List.set_cons_succ]
  refine wpAnyH_ready (rs := [13]) (by kernel_rfl) (by simp) ?_
  refine AllReadyH.cons (o := _) rfl (fun K hK => ?_) AllReadyH.nil
  go_simp
  refine hK.out _ _ ?_ (fun hHr1_2 => ?_)
  · (try dsimp only); (first | assumption | go_simp)
  clear hK K hHr1_1
  try simp only [Act.put, List.getElem_toArray, List.getElem_cons_succ, List.getElem_cons_zero, List.setIfInBounds_toArray, List.set_cons_zero, List.set_cons_succ]
  refine wpAnyH_done (by kernel_rfl) ?_ _
  refine NoPanic.normal ?_
  go_wp2
  refine bodyPost_ret (v := .tuple #[.agg #[.int .i64 1, .int .i64 ((N : Int) - 256), .int .u64 0, .string ⟨#[]⟩], .int .i64 2]) (by simp [results, Tryz.results73, go_sem, hw1, hcv, hsh, hsb]) rfl ⟨rfl, ?_⟩
  exact by (repeat (first | exact Below.refl _ _ | assumption | exact Bel.refl _ | refine Bel.alloc ?_ _ | refine Bel.drew ?_ | refine Bel.drewN ?_ _ | refine Bel.then_ ?_ (by assumption) | refine Bel.setCell ?_ (by first | (simp; done) | (simp; omega)) _))
set_option maxRecDepth 100000 in
set_option maxHeartbeats 1000000 in
theorem r4v_int1pos (w : World) (cn : ByteArray) (cnl : Bool) (ab ao n c : Nat) (hd : w.cell? ⟨ab, ao, none⟩ = some (.int .u8 1)) (hn : 2 ≤ n) (hcn : n ≤ c) (hmx : c ≤ maxLen) (e : Nat) (he : w.cell? ⟨ab, ao + 1, none⟩ = some (.int .u8 e)) (q : List UInt8) (hz : 1 ≤ q.length) (hzn : 1 ≤ n - 1) (hrq : Reads w w.heap.size 1 (some ⟨ab, ao + 1, none⟩) q.length (q.map bv)) (h1 : e < 128) : Calls Tryz.prog 73 #[.agg #[.string cn, .int .i64 1, .int .i64 1, .bool cnl], .slice (some ⟨ab, ao, none⟩) n c] w (GivesV ⟨1, numN (q.take 1), 0, ⟨#[]⟩⟩ 2 w) := by
  have hb0 : Bel w ((w.alloc (.cells #[.string cn, .int .i64 1, .int .i64 1, .bool cnl] 44)).alloc (.cells #[.int .i64 0, .int .i64 0, .int .u64 0, .string ⟨#[]⟩] 48)) := ((Bel.refl w).alloc _).alloc _
  have hl : (q.take 1).length = 1 := by rw [List.length_take]; omega
  have HRF := Lib.hid (fun cap (hr : Reads ((w.alloc (.cells #[.string cn, .int .i64 1, .int .i64 1, .bool cnl] 44)).alloc (.cells #[.int .i64 0, .int .i64 0, .int .u64 0, .string ⟨#[]⟩] 48)) ((w.alloc (.cells #[.string cn, .int .i64 1, .int .i64 1, .bool cnl] 44)).alloc (.cells #[.int .i64 0, .int .i64 0, .int .u64 0, .string ⟨#[]⟩] 48)).heap.size 1 (some ⟨ab, ao + 1, none⟩) (q.take 1).length ((q.take 1).map bv)) => r2ReadFixed_any (q.take 1) (some ⟨ab, ao + 1, none⟩) cap (by omega) (by omega) ((w.alloc (.cells #[.string cn, .int .i64 1, .int .i64 1, .bool cnl] 44)).alloc (.cells #[.int .i64 0, .int .i64 0, .int .u64 0, .string ⟨#[]⟩] 48)) hr)
  have hrw := (hrq.head 1 hz).belH hb0
  rw [hl] at HRF
  have HRW := Lib.hid hrw
  clear hrw hrq
  have hlt : ab < w.heap.size := World.block_lt_of_cell? (w := w) (a := ⟨ab, ao, none⟩) hd
  have hn0 : ((n : Int) == 0) = false := by rw [beq_eq_false_iff_ne]; omega
  have hnJ : (2 : Int) ≤ n := by omega
  have hnI : (1 : Int) ≤ n := by omega
  have hnc : (n : Int) ≤ c := by omega
  have hcm : (c : Int) ≤ 9223372036854775807 := by unfold maxLen at hmx; omega
  have hI4 : ((n : Int) - 1).toNat = n - 1 := by omega
  have hI5 : ((c : Int) - 1).toNat = c - 1 := by omega
  have hc1 : ¬ c = 1 := by omega
  have hq0 : (((n - 1 : Nat) : Int) == 0) = false := by rw [beq_eq_false_iff_ne]; omega
  have hq1 : (1 : Int) ≤ ((n - 1 : Nat) : Int) := by omega
  have hzI : (1 : Int) ≤ ((n - 1 : Nat) : Int) := by omega
  have hzK : (1 : Int) ≤ ((c - 1 : Nat) : Int) := by omega
  have hlN := numN_lt (q.take 1)
  rw [hl] at hlN
  generalize numN (q.take 1) = N at *
  rw [show (256 : Nat) ^ 1 = 256 by decide] at hlN
  have hNI : (N : Int) ≤ 255 := by omega
  have hcv : IntKind.i64.wrap (N : Int) = N := by
    simp only [IntKind.wrap, IntKind.bits, IntKind.signed]
    simp
    omega
  have hsb : IntKind.i64.wrap ((N : Int) - 256) = (N : Int) - 256 := by
    simp only [IntKind.wrap, IntKind.bits, IntKind.signed]
    simp
    omega
  have hdb : decide ((128 : Int) ≤ e) = false := by simp; omega
  have hdc : decide ((e : Int) ≥ 128) = false := by simp; omega
  have hzd : decide (n - 1 < 1) = false := by simp; omega
  have hw1 : IntKind.i64.wrap 2 = 2 := by decide
  have hsh : IntKind.i64.wrap (2 ^ min (IntKind.u64.wrap (IntKind.i64.wrap 8)).toNat 64) = 256 := by decide
  clear hmx hcn hl hz hlN
  go_enter Tryz.func73, Tryz.ntmps73
  go_wp2_with fail
  refine (HRF.out _ HRW.out).mono ?_
  rintro e w' ⟨rfl, rfl⟩
  go_wp2
  refine wp_region_noPanic ?_
  refine wp_region_held_drew (S := (fun V : World => V.cell? ⟨w.heap.size, 2, none⟩ = some (.int .i64 1))) (by kernel_rfl) ?_ (fun hHr2_0 => ?_)
  · (try dsimp only); (first | assumption | go_simp)
  refine wpAnyH_take (i := 0) (oi := _) (v := ?vr2_1_0) rfl (by kernel_rfl) (by kernel_rfl) (by kernel_rfl) ?hqr2_1_0 (Or.inl ⟨by kernel_rfl, ?hyr2_1_0⟩) (by assumption) ?restr2_1_0
  case hqr2_1_0 => exact fun _ _ _ h => h
  case hyr2_1_0 => (intro w hSw; (try dsimp only at hSw); go_simp; try with_reducible rfl)
  try simp only [Act.put, List.getElem_toArray, List.getElem_cons_succ, List.getElem_cons_zero, List.setIfInBounds_toArray, List.set_cons_zero, List.set_cons_succ]
  refine wpAnyH_take (i := 1) (oi := _) (v := ?vr2_1_1) rfl (by kernel_rfl) (by kernel_rfl) (by kernel_rfl) ?hqr2_1_1 (Or.inl ⟨by kernel_rfl, ?hyr2_1_1⟩) (by assumption) ?restr2_1_1
  case hqr2_1_1 => exact fun _ _ _ h => h
  case hyr2_1_1 => (intro w hSw; (try dsimp only at hSw); go_simp; try with_reducible rfl)
  try simp only [Act.put, List.getElem_toArray, List.getElem_cons_succ, List.getElem_cons_zero, List.setIfInBounds_toArray, List.set_cons_zero, List.set_cons_succ]
  refine wpAnyH_take (i := 2) (oi := _) (v := ?vr2_1_2) rfl (by kernel_rfl) (by kernel_rfl) (by kernel_rfl) ?hqr2_1_2 (Or.inl ⟨by kernel_rfl, ?hyr2_1_2⟩) (by assumption) ?restr2_1_2
  case hqr2_1_2 => exact fun _ _ _ h => h
  case hyr2_1_2 => (intro w hSw; (try dsimp only at hSw); go_simp; try with_reducible rfl)
  try simp only [Act.put, List.getElem_toArray, List.getElem_cons_succ, List.getElem_cons_zero, List.setIfInBounds_toArray, List.set_cons_zero, List.set_cons_succ]
  refine wpAnyH_take (i := 3) (oi := _) (v := ?vr2_1_3) rfl (by kernel_rfl) (by kernel_rfl) (by kernel_rfl) ?hqr2_1_3 (Or.inl ⟨by kernel_rfl, ?hyr2_1_3⟩) (by assumption) ?restr2_1_3
  case hqr2_1_3 => exact fun _ _ _ h => h
  case hyr2_1_3 => (intro w hSw; (try dsimp only at hSw); go_simp; try with_reducible rfl)
  try simp only [Act.put, List.getElem_toArray, List.getElem_cons_succ, List.getElem_cons_zero, List.setIfInBounds_toArray, List.set_cons_zero, List.set_cons_succ]
  refine wpAnyH_take (i := 4) (oi := _) (v := ?vr2_1_4) rfl (by kernel_rfl) (by kernel_rfl) (by kernel_rfl) ?hqr2_1_4 (Or.inl ⟨by kernel_rfl, ?hyr2_1_4⟩) (by assumption) ?restr2_1_4
  case hqr2_1_4 => exact fun _ _ _ h => h
  case hyr2_1_4 => (intro w hSw; (try dsimp only at hSw); go_simp; try with_reducible rfl)
  try simp only [Act.put, List.getElem_toArray, List.getElem_cons_succ, List.getElem_cons_zero, List.setIfInBounds_toArray, List.set_cons_zero, List.set_cons_succ]
  refine wpAnyH_take (i := 5) (oi := _) (v := ?vr2_1_5) rfl (by kernel_rfl) (by kernel_rfl) (by kernel_rfl) ?hqr2_1_5 (Or.inl ⟨by kernel_rfl, ?hyr2_1_5⟩) (by assumption) ?restr2_1_5
  case hqr2_1_5 => exact fun _ _ _ h => h
  case hyr2_1_5 => (intro w hSw; (try dsimp only at hSw); go_simp; try with_reducible rfl)
  try simp only [Act.put, List.getElem_toArray, List.getElem_cons_succ, List.getElem_cons_zero, List.setIfInBounds_toArray, List.set_cons_zero, List.set_cons_succ]
  refine wpAnyH_ready (rs := [6]) (by kernel_rfl) (by simp) ?_
  refine AllReadyH.cons (o := _) rfl (fun K hK => ?_) AllReadyH.nil
  go_simp
  refine hK.out _ _ ?_ (fun hHr2_1 => ?_)
  · (try dsimp only); (first | assumption | go_simp)
  clear hK K hHr2_0
  try simp only [Act.put, List.getElem_toArray, List.getElem_cons_succ, List.getElem_cons_zero, List.setIfInBounds_toArray, List.set_cons_zero, List.set_cons_succ]
  refine wpAnyH_ready (rs := [7]) (by kernel_rfl) (by simp) ?_
  refine AllReadyH.cons (o := _) rfl (fun K hK => ?_) AllReadyH.nil
  go_simp
  refine hK.out _ _ ?_ (fun hHr2_2 => ?_)
  · (try dsimp only); (first | assumption | go_simp)
  clear hK K hHr2_1
  try simp only [Act.put, List.getElem_toArray, List.getElem_cons_succ, List.getElem_cons_zero, List.setIfInBounds_toArray, List.set_cons_zero, List.set_cons_succ]
  refine wpAnyH_done (by kernel_rfl) ?_ _
  refine NoPanic.normal ?_
  go_wp2
  refine bodyPost_ret (v := .tuple #[.agg #[.int .i64 1, .int .i64 N, .int .u64 0, .string ⟨#[]⟩], .int .i64 2]) (by simp [results, Tryz.results73, go_sem, hw1, hcv, hsh, hsb]) rfl ⟨rfl, ?_⟩
  exact by (repeat (first | exact Below.refl _ _ | assumption | exact Bel.refl _ | refine Bel.alloc ?_ _ | refine Bel.drew ?_ | refine Bel.drewN ?_ _ | refine Bel.then_ ?_ (by assumption) | refine Bel.setCell ?_ (by first | (simp; done) | (simp; omega)) _))
set_option maxRecDepth 100000 in
set_option maxHeartbeats 1000000 in
theorem r4v_int2neg (w : World) (cn : ByteArray) (cnl : Bool) (ab ao n c : Nat) (hd : w.cell? ⟨ab, ao, none⟩ = some (.int .u8 1)) (hn : 2 ≤ n) (hcn : n ≤ c) (hmx : c ≤ maxLen) (e : Nat) (he : w.cell? ⟨ab, ao + 1, none⟩ = some (.int .u8 e)) (q : List UInt8) (hz : 2 ≤ q.length) (hzn : 2 ≤ n - 1) (hrq : Reads w w.heap.size 1 (some ⟨ab, ao + 1, none⟩) q.length (q.map bv)) (h1 : 128 ≤ e) : Calls Tryz.prog 73 #[.agg #[.string cn, .int .i64 1, .int .i64 2, .bool cnl], .slice (some ⟨ab, ao, none⟩) n c] w (GivesV ⟨1, (numN (q.take 2) : Int) - 65536, 0, ⟨#[]⟩⟩ 3 w) := by
  have hb0 : Bel w ((w.alloc (.cells #[.string cn, .int .i64 1, .int .i64 2, .bool cnl] 44)).alloc (.cells #[.int .i64 0, .int .i64 0, .int .u64 0, .string ⟨#[]⟩] 48)) := ((Bel.refl w).alloc _).alloc _
  have hl : (q.take 2).length = 2 := by rw [List.length_take]; omega
  have HRF := Lib.hid (fun cap (hr : Reads ((w.alloc (.cells #[.string cn, .int .i64 1, .int .i64 2, .bool cnl] 44)).alloc (.cells #[.int .i64 0, .int .i64 0, .int .u64 0, .string ⟨#[]⟩] 48)) ((w.alloc (.cells #[.string cn, .int .i64 1, .int .i64 2, .bool cnl] 44)).alloc (.cells #[.int .i64 0, .int .i64 0, .int .u64 0, .string ⟨#[]⟩] 48)).heap.size 1 (some ⟨ab, ao + 1, none⟩) (q.take 2).length ((q.take 2).map bv)) => r2ReadFixed_any (q.take 2) (some ⟨ab, ao + 1, none⟩) cap (by omega) (by omega) ((w.alloc (.cells #[.string cn, .int .i64 1, .int .i64 2, .bool cnl] 44)).alloc (.cells #[.int .i64 0, .int .i64 0, .int .u64 0, .string ⟨#[]⟩] 48)) hr)
  have hrw := (hrq.head 2 hz).belH hb0
  rw [hl] at HRF
  have HRW := Lib.hid hrw
  clear hrw hrq
  have hlt : ab < w.heap.size := World.block_lt_of_cell? (w := w) (a := ⟨ab, ao, none⟩) hd
  have hn0 : ((n : Int) == 0) = false := by rw [beq_eq_false_iff_ne]; omega
  have hnJ : (2 : Int) ≤ n := by omega
  have hnI : (1 : Int) ≤ n := by omega
  have hnc : (n : Int) ≤ c := by omega
  have hcm : (c : Int) ≤ 9223372036854775807 := by unfold maxLen at hmx; omega
  have hI4 : ((n : Int) - 1).toNat = n - 1 := by omega
  have hI5 : ((c : Int) - 1).toNat = c - 1 := by omega
  have hc1 : ¬ c = 1 := by omega
  have hq0 : (((n - 1 : Nat) : Int) == 0) = false := by rw [beq_eq_false_iff_ne]; omega
  have hq1 : (1 : Int) ≤ ((n - 1 : Nat) : Int) := by omega
  have hzI : (2 : Int) ≤ ((n - 1 : Nat) : Int) := by omega
  have hzK : (2 : Int) ≤ ((c - 1 : Nat) : Int) := by omega
  have hlN := numN_lt (q.take 2)
  rw [hl] at hlN
  generalize numN (q.take 2) = N at *
  rw [show (256 : Nat) ^ 2 = 65536 by decide] at hlN
  have hNI : (N : Int) ≤ 65535 := by omega
  have hcv : IntKind.i64.wrap (N : Int) = N := by
    simp only [IntKind.wrap, IntKind.bits, IntKind.signed]
    simp
    omega
  have hsb : IntKind.i64.wrap ((N : Int) - 65536) = (N : Int) - 65536 := by
    simp only [IntKind.wrap, IntKind.bits, IntKind.signed]
    simp
    omega
  have hdb : decide ((128 : Int) ≤ e) = true := by simp; omega
  have hdc : decide ((e : Int) ≥ 128) = true := by simp; omega
  have hzd : decide (n - 1 < 2) = false := by simp; omega
  have hw1 : IntKind.i64.wrap 3 = 3 := by decide
  have hsh : IntKind.i64.wrap (2 ^ min (IntKind.u64.wrap (IntKind.i64.wrap 16)).toNat 64) = 65536 := by decide
  clear hmx hcn hl hz hlN
  go_enter Tryz.func73, Tryz.ntmps73
  go_wp2_with fail
  refine (HRF.out _ HRW.out).mono ?_
  rintro e w' ⟨rfl, rfl⟩
  go_wp2
  refine wp_region_noPanic ?_
  refine wp_region_held_drew (S := (fun V : World => V.cell? ⟨w.heap.size, 2, none⟩ = some (.int .i64 2))) (by kernel_rfl) ?_ (fun hHr3_0 => ?_)
  · (try dsimp only); (first | assumption | go_simp)
  refine wpAnyH_take (i := 0) (oi := _) (v := ?vr3_1_0) rfl (by kernel_rfl) (by kernel_rfl) (by kernel_rfl) ?hqr3_1_0 (Or.inl ⟨by kernel_rfl, ?hyr3_1_0⟩) (by assumption) ?restr3_1_0
  case hqr3_1_0 => exact fun _ _ _ h => h
  case hyr3_1_0 => (intro w hSw; (try dsimp only at hSw); go_simp; try with_reducible rfl)
  try simp only [Act.put, List.getElem_toArray, List.getElem_cons_succ, List.getElem_cons_zero, List.setIfInBounds_toArray, List.set_cons_zero, List.set_cons_succ]
  refine wpAnyH_take (i := 1) (oi := _) (v := ?vr3_1_1) rfl (by kernel_rfl) (by kernel_rfl) (by kernel_rfl) ?hqr3_1_1 (Or.inl ⟨by kernel_rfl, ?hyr3_1_1⟩) (by assumption) ?restr3_1_1
  case hqr3_1_1 => exact fun _ _ _ h => h
  case hyr3_1_1 => (intro w hSw; (try dsimp only at hSw); go_simp; try with_reducible rfl)
  try simp only [Act.put, List.getElem_toArray, List.getElem_cons_succ, List.getElem_cons_zero, List.setIfInBounds_toArray, List.set_cons_zero, List.set_cons_succ]
  refine wpAnyH_take (i := 2) (oi := _) (v := ?vr3_1_2) rfl (by kernel_rfl) (by kernel_rfl) (by kernel_rfl) ?hqr3_1_2 (Or.inl ⟨by kernel_rfl, ?hyr3_1_2⟩) (by assumption) ?restr3_1_2
  case hqr3_1_2 => exact fun _ _ _ h => h
  case hyr3_1_2 => (intro w hSw; (try dsimp only at hSw); go_simp; try with_reducible rfl)
  try simp only [Act.put, List.getElem_toArray, List.getElem_cons_succ, List.getElem_cons_zero, List.setIfInBounds_toArray, List.set_cons_zero, List.set_cons_succ]
  refine wpAnyH_take (i := 3) (oi := _) (v := ?vr3_1_3) rfl (by kernel_rfl) (by kernel_rfl) (by kernel_rfl) ?hqr3_1_3 (Or.inl ⟨by kernel_rfl, ?hyr3_1_3⟩) (by assumption) ?restr3_1_3
  case hqr3_1_3 => exact fun _ _ _ h => h
  case hyr3_1_3 => (intro w hSw; (try dsimp only at hSw); go_simp; try with_reducible rfl)
  try simp only [Act.put, List.getElem_toArray, List.getElem_cons_succ, List.getElem_cons_zero, List.setIfInBounds_toArray, List.set_cons_zero, List.set_cons_succ]
  refine wpAnyH_take (i := 4) (oi := _) (v := ?vr3_1_4) rfl (by kernel_rfl) (by kernel_rfl) (by kernel_rfl) ?hqr3_1_4 (Or.inl ⟨by kernel_rfl, ?hyr3_1_4⟩) (by assumption) ?restr3_1_4
  case hqr3_1_4 => exact fun _ _ _ h => h
  case hyr3_1_4 => (intro w hSw; (try dsimp only at hSw); go_simp; try with_reducible rfl)
  try simp only [Act.put, List.getElem_toArray, List.getElem_cons_succ, List.getElem_cons_zero, List.setIfInBounds_toArray, List.set_cons_zero, List.set_cons_succ]
  refine wpAnyH_take (i := 5) (oi := _) (v := ?vr3_1_5) rfl (by kernel_rfl) (by kernel_rfl) (by kernel_rfl) ?hqr3_1_5 (Or.inl ⟨by kernel_rfl, ?hyr3_1_5⟩) (by assumption) ?restr3_1_5
  case hqr3_1_5 => exact fun _ _ _ h => h
  case hyr3_1_5 => (intro w hSw; (try dsimp only at hSw); go_simp; try with_reducible rfl)
  try simp only [Act.put, List.getElem_toArray, List.getElem_cons_succ, List.getElem_cons_zero, List.setIfInBounds_toArray, List.set_cons_zero, List.set_cons_succ]
  refine wpAnyH_take (i := 6) (oi := _) (v := ?vr3_1_6) rfl (by kernel_rfl) (by kernel_rfl) (by kernel_rfl) ?hqr3_1_6 (Or.inl ⟨by kernel_rfl, ?hyr3_1_6⟩) (by assumption) ?restr3_1_6
  case hqr3_1_6 => exact fun _ _ _ h => h
  case hyr3_1_6 => (intro w hSw; (try dsimp only at hSw); go_simp; try with_reducible rfl)
  try simp only [Act.put, List.getElem_toArray, List.getElem_cons_succ, List.getElem_cons_zero, List.setIfInBounds_toArray, List.set_cons_zero, List.set_cons_succ]
  refine wpAnyH_take (i := 7) (oi := _) (v := ?vr3_1_7) rfl (by kernel_rfl) (by kernel_rfl) (by kernel_rfl) ?hqr3_1_7 (Or.inl ⟨by kernel_rfl, ?hyr3_1_7⟩) (by assumption) ?restr3_1_7
  case hqr3_1_7 => exact fun _ _ _ h => h
  case hyr3_1_7 => (intro w hSw; (try dsimp only at hSw); go_simp; try with_reducible rfl)
  try simp only [Act.put, List.getElem_toArray, List.getElem_cons_succ, List.getElem_cons_zero, List.setIfInBounds_toArray, List.set_cons_zero, List.set_cons_succ]
  refine wpAnyH_take (i := 8) (oi := _) (v := ?vr3_1_8) rfl (by kernel_rfl) (by kernel_rfl) (by kernel_rfl) ?hqr3_1_8 (Or.inl ⟨by kernel_rfl, ?hyr3_1_8⟩) (by assumption) ?restr3_1_8
  case hqr3_1_8 => exact fun _ _ _ h => h
  case hyr3_1_8 => (intro w hSw; (try dsimp only at hSw); go_simp; try with_reducible rfl)
  try simp only [Act.put, List.getElem_toArray, List.getElem_cons_succ, List.getElem_cons_zero, List.setIfInBounds_toArray, List.set_cons_zero, List.set_cons_succ]
  refine wpAnyH_take (i := 9) (oi := _) (v := ?vr3_1_9) rfl (by kernel_rfl) (by kernel_rfl) (by kernel_rfl) ?hqr3_1_9 (Or.inl ⟨by kernel_rfl, ?hyr3_1_9⟩) (by assumption) ?restr3_1_9
  case hqr3_1_9 => exact fun _ _ _ h => h
  case hyr3_1_9 => (intro w hSw; (try dsimp only at hSw); go_simp; try with_reducible rfl)
  try simp only [Act.put, List.getElem_toArray, List.getElem_cons_succ, List.getElem_cons_zero, List.setIfInBounds_toArray, List.set_cons_zero, List.set_cons_succ]
  refine wpAnyH_take (i := 10) (oi := _) (v := ?vr3_1_10) rfl (by kernel_rfl) (by kernel_rfl) (by kernel_rfl) ?hqr3_1_10 (Or.inl ⟨by kernel_rfl, ?hyr3_1_10⟩) (by assumption) ?restr3_1_10
  case hqr3_1_10 => exact fun _ _ _ h => h
  case hyr3_1_10 => (intro w hSw; (try dsimp only at hSw); go_simp; try with_reducible rfl)
  try simp only [Act.put, List.getElem_toArray, List.getElem_cons_succ, List.getElem_cons_zero, List.setIfInBounds_toArray, List.set_cons_zero, List.set_cons_succ]
  refine wpAnyH_take (i := 11) (oi := _) (v := ?vr3_1_11) rfl (by kernel_rfl) (by kernel_rfl) (by kernel_rfl) ?hqr3_1_11 (Or.inl ⟨by kernel_rfl, ?hyr3_1_11⟩) (by assumption) ?restr3_1_11
  case hqr3_1_11 => exact fun _ _ _ h => h
  case hyr3_1_11 => (intro w hSw; (try dsimp only at hSw); go_simp; try with_reducible rfl)
  try simp only [Act.put, List.getElem_toArray, List.getElem_cons_succ, List.getElem_cons_zero, List.setIfInBounds_toArray, List.set_cons_zero, List.set_cons_succ]
  refine wpAnyH_ready (rs := [12]) (by kernel_rfl) (by simp) ?_
  refine AllReadyH.cons (o := _) rfl (fun K hK => ?_) AllReadyH.nil
  go_simp
  refine hK.out _ _ ?_ (fun hHr3_1 => ?_)
  · (try dsimp only); (first | assumption | go_simp)
  clear hK K hHr3_0
  try simp only [Act.put, List.getElem_toArray, List.getElem_cons_succ, List.getElem_cons_zero, List.setIfInBounds_toArray, List.set_cons_zero, List.set_cons_succ]
  refine wpAnyH_ready (rs := [13]) (by kernel_rfl) (by simp) ?_
  refine AllReadyH.cons (o := _) rfl (fun K hK => ?_) AllReadyH.nil
  go_simp
  refine hK.out _ _ ?_ (fun hHr3_2 => ?_)
  · (try dsimp only); (first | assumption | go_simp)
  clear hK K hHr3_1
  try simp only [Act.put, List.getElem_toArray, List.getElem_cons_succ, List.getElem_cons_zero, List.setIfInBounds_toArray, List.set_cons_zero, List.set_cons_succ]
  refine wpAnyH_done (by kernel_rfl) ?_ _
  refine NoPanic.normal ?_
  go_wp2
  refine bodyPost_ret (v := .tuple #[.agg #[.int .i64 1, .int .i64 ((N : Int) - 65536), .int .u64 0, .string ⟨#[]⟩], .int .i64 3]) (by simp [results, Tryz.results73, go_sem, hw1, hcv, hsh, hsb]) rfl ⟨rfl, ?_⟩
  exact by (repeat (first | exact Below.refl _ _ | assumption | exact Bel.refl _ | refine Bel.alloc ?_ _ | refine Bel.drew ?_ | refine Bel.drewN ?_ _ | refine Bel.then_ ?_ (by assumption) | refine Bel.setCell ?_ (by first | (simp; done) | (simp; omega)) _))
set_option maxRecDepth 100000 in
set_option maxHeartbeats 1000000 in
theorem r4v_int2pos (w : World) (cn : ByteArray) (cnl : Bool) (ab ao n c : Nat) (hd : w.cell? ⟨ab, ao, none⟩ = some (.int .u8 1)) (hn : 2 ≤ n) (hcn : n ≤ c) (hmx : c ≤ maxLen) (e : Nat) (he : w.cell? ⟨ab, ao + 1, none⟩ = some (.int .u8 e)) (q : List UInt8) (hz : 2 ≤ q.length) (hzn : 2 ≤ n - 1) (hrq : Reads w w.heap.size 1 (some ⟨ab, ao + 1, none⟩) q.length (q.map bv)) (h1 : e < 128) : Calls Tryz.prog 73 #[.agg #[.string cn, .int .i64 1, .int .i64 2, .bool cnl], .slice (some ⟨ab, ao, none⟩) n c] w (GivesV ⟨1, numN (q.take 2), 0, ⟨#[]⟩⟩ 3 w) := by
  have hb0 : Bel w ((w.alloc (.cells #[.string cn, .int .i64 1, .int .i64 2, .bool cnl] 44)).alloc (.cells #[.int .i64 0, .int .i64 0, .int .u64 0, .string ⟨#[]⟩] 48)) := ((Bel.refl w).alloc _).alloc _
  have hl : (q.take 2).length = 2 := by rw [List.length_take]; omega
  have HRF := Lib.hid (fun cap (hr : Reads ((w.alloc (.cells #[.string cn, .int .i64 1, .int .i64 2, .bool cnl] 44)).alloc (.cells #[.int .i64 0, .int .i64 0, .int .u64 0, .string ⟨#[]⟩] 48)) ((w.alloc (.cells #[.string cn, .int .i64 1, .int .i64 2, .bool cnl] 44)).alloc (.cells #[.int .i64 0, .int .i64 0, .int .u64 0, .string ⟨#[]⟩] 48)).heap.size 1 (some ⟨ab, ao + 1, none⟩) (q.take 2).length ((q.take 2).map bv)) => r2ReadFixed_any (q.take 2) (some ⟨ab, ao + 1, none⟩) cap (by omega) (by omega) ((w.alloc (.cells #[.string cn, .int .i64 1, .int .i64 2, .bool cnl] 44)).alloc (.cells #[.int .i64 0, .int .i64 0, .int .u64 0, .string ⟨#[]⟩] 48)) hr)
  have hrw := (hrq.head 2 hz).belH hb0
  rw [hl] at HRF
  have HRW := Lib.hid hrw
  clear hrw hrq
  have hlt : ab < w.heap.size := World.block_lt_of_cell? (w := w) (a := ⟨ab, ao, none⟩) hd
  have hn0 : ((n : Int) == 0) = false := by rw [beq_eq_false_iff_ne]; omega
  have hnJ : (2 : Int) ≤ n := by omega
  have hnI : (1 : Int) ≤ n := by omega
  have hnc : (n : Int) ≤ c := by omega
  have hcm : (c : Int) ≤ 9223372036854775807 := by unfold maxLen at hmx; omega
  have hI4 : ((n : Int) - 1).toNat = n - 1 := by omega
  have hI5 : ((c : Int) - 1).toNat = c - 1 := by omega
  have hc1 : ¬ c = 1 := by omega
  have hq0 : (((n - 1 : Nat) : Int) == 0) = false := by rw [beq_eq_false_iff_ne]; omega
  have hq1 : (1 : Int) ≤ ((n - 1 : Nat) : Int) := by omega
  have hzI : (2 : Int) ≤ ((n - 1 : Nat) : Int) := by omega
  have hzK : (2 : Int) ≤ ((c - 1 : Nat) : Int) := by omega
  have hlN := numN_lt (q.take 2)
  rw [hl] at hlN
  generalize numN (q.take 2) = N at *
  rw [show (256 : Nat) ^ 2 = 65536 by decide] at hlN
  have hNI : (N : Int) ≤ 65535 := by omega
  have hcv : IntKind.i64.wrap (N : Int) = N := by
    simp only [IntKind.wrap, IntKind.bits, IntKind.signed]
    simp
    omega
  have hsb : IntKind.i64.wrap ((N : Int) - 65536) = (N : Int) - 65536 := by
    simp only [IntKind.wrap, IntKind.bits, IntKind.signed]
    simp
    omega
  have hdb : decide ((128 : Int) ≤ e) = false := by simp; omega
  have hdc : decide ((e : Int) ≥ 128) = false := by simp; omega
  have hzd : decide (n - 1 < 2) = false := by simp; omega
  have hw1 : IntKind.i64.wrap 3 = 3 := by decide
  have hsh : IntKind.i64.wrap (2 ^ min (IntKind.u64.wrap (IntKind.i64.wrap 16)).toNat 64) = 65536 := by decide
  clear hmx hcn hl hz hlN
  go_enter Tryz.func73, Tryz.ntmps73
  go_wp2_with fail
  refine (HRF.out _ HRW.out).mono ?_
  rintro e w' ⟨rfl, rfl⟩
  go_wp2
  refine wp_region_noPanic ?_
  refine wp_region_held_drew (S := (fun V : World => V.cell? ⟨w.heap.size, 2, none⟩ = some (.int .i64 2))) (by kernel_rfl) ?_ (fun hHr4_0 => ?_)
  · (try dsimp only); (first | assumption | go_simp)
  refine wpAnyH_take (i := 0) (oi := _) (v := ?vr4_1_0) rfl (by kernel_rfl) (by kernel_rfl) (by kernel_rfl) ?hqr4_1_0 (Or.inl ⟨by kernel_rfl, ?hyr4_1_0⟩) (by assumption) ?restr4_1_0
  case hqr4_1_0 => exact fun _ _ _ h => h
  case hyr4_1_0 => (intro w hSw; (try dsimp only at hSw); go_simp; try with_reducible rfl)
  try simp only [Act.put, List.getElem_toArray, List.getElem_cons_succ, List.getElem_cons_zero, List.setIfInBounds_toArray, List.set_cons_zero, List.set_cons_succ]
  refine wpAnyH_take (i := 1) (oi := _) (v := ?vr4_1_1) rfl (by kernel_rfl) (by kernel_rfl) (by kernel_rfl) ?hqr4_1_1 (Or.inl ⟨by kernel_rfl, ?hyr4_1_1⟩) (by assumption) ?restr4_1_1
  case hqr4_1_1 => exact fun _ _ _ h => h
  case hyr4_1_1 => (intro w hSw; (try dsimp only at hSw); go_simp; try with_reducible rfl)
  try simp only [Act.put, List.getElem_toArray, List.getElem_cons_succ, List.getElem_cons_zero, List.setIfInBounds_toArray, List.set_cons_zero, List.set_cons_succ]
  refine wpAnyH_take (i := 2) (oi := _) (v := ?vr4_1_2) rfl (by kernel_rfl) (by kernel_rfl) (by kernel_rfl) ?hqr4_1_2 (Or.inl ⟨by kernel_rfl, ?hyr4_1_2⟩) (by assumption) ?restr4_1_2
  case hqr4_1_2 => exact fun _ _ _ h => h
  case hyr4_1_2 => (intro w hSw; (try dsimp only at hSw); go_simp; try with_reducible rfl)
  try simp only [Act.put, List.getElem_toArray, List.getElem_cons_succ, List.getElem_cons_zero, List.setIfInBounds_toArray, List.set_cons_zero, List.set_cons_succ]
  refine wpAnyH_take (i := 3) (oi := _) (v := ?vr4_1_3) rfl (by kernel_rfl) (by kernel_rfl) (by kernel_rfl) ?hqr4_1_3 (Or.inl ⟨by kernel_rfl, ?hyr4_1_3⟩) (by assumption) ?restr4_1_3
  case hqr4_1_3 => exact fun _ _ _ h => h
  case hyr4_1_3 => (intro w hSw; (try dsimp only at hSw); go_simp; try with_reducible rfl)
  try simp only [Act.put, List.getElem_toArray, List.getElem_cons_succ, List.getElem_cons_zero, List.setIfInBounds_toArray, List.set_cons_zero, List.set_cons_succ]
  refine wpAnyH_take (i := 4) (oi := _) (v := ?vr4_1_4) rfl (by kernel_rfl) (by kernel_rfl) (by kernel_rfl) ?hqr4_1_4 (Or.inl ⟨by kernel_rfl, ?hyr4_1_4⟩) (by assumption) ?restr4_1_4
  case hqr4_1_4 => exact fun _ _ _ h => h
  case hyr4_1_4 => (intro w hSw; (try dsimp only at hSw); go_simp; try with_reducible rfl)
  try simp only [Act.put, List.getElem_toArray, List.getElem_cons_succ, List.getElem_cons_zero, List.setIfInBounds_toArray, List.set_cons_zero, List.set_cons_succ]
  refine wpAnyH_take (i := 5) (oi := _) (v := ?vr4_1_5) rfl (by kernel_rfl) (by kernel_rfl) (by kernel_rfl) ?hqr4_1_5 (Or.inl ⟨by kernel_rfl, ?hyr4_1_5⟩) (by assumption) ?restr4_1_5
  case hqr4_1_5 => exact fun _ _ _ h => h
  case hyr4_1_5 => (intro w hSw; (try dsimp only at hSw); go_simp; try with_reducible rfl)
  try simp only [Act.put, List.getElem_toArray, List.getElem_cons_succ, List.getElem_cons_zero, List.setIfInBounds_toArray, List.set_cons_zero, List.set_cons_succ]
  refine wpAnyH_ready (rs := [6]) (by kernel_rfl) (by simp) ?_
  refine AllReadyH.cons (o := _) rfl (fun K hK => ?_) AllReadyH.nil
  go_simp
  refine hK.out _ _ ?_ (fun hHr4_1 => ?_)
  · (try dsimp only); (first | assumption | go_simp)
  clear hK K hHr4_0
  try simp only [Act.put, List.getElem_toArray, List.getElem_cons_succ, List.getElem_cons_zero, List.setIfInBounds_toArray, List.set_cons_zero, List.set_cons_succ]
  refine wpAnyH_ready (rs := [7]) (by kernel_rfl) (by simp) ?_
  refine AllReadyH.cons (o := _) rfl (fun K hK => ?_) AllReadyH.nil
  go_simp
  refine hK.out _ _ ?_ (fun hHr4_2 => ?_)
  · (try dsimp only); (first | assumption | go_simp)
  clear hK K hHr4_1
  try simp only [Act.put, List.getElem_toArray, List.getElem_cons_succ, List.getElem_cons_zero, List.setIfInBounds_toArray, List.set_cons_zero, List.set_cons_succ]
  refine wpAnyH_done (by kernel_rfl) ?_ _
  refine NoPanic.normal ?_
  go_wp2
  refine bodyPost_ret (v := .tuple #[.agg #[.int .i64 1, .int .i64 N, .int .u64 0, .string ⟨#[]⟩], .int .i64 3]) (by simp [results, Tryz.results73, go_sem, hw1, hcv, hsh, hsb]) rfl ⟨rfl, ?_⟩
  exact by (repeat (first | exact Below.refl _ _ | assumption | exact Bel.refl _ | refine Bel.alloc ?_ _ | refine Bel.drew ?_ | refine Bel.drewN ?_ _ | refine Bel.then_ ?_ (by assumption) | refine Bel.setCell ?_ (by first | (simp; done) | (simp; omega)) _))
set_option maxRecDepth 100000 in
set_option maxHeartbeats 1000000 in
theorem r4v_int4neg (w : World) (cn : ByteArray) (cnl : Bool) (ab ao n c : Nat) (hd : w.cell? ⟨ab, ao, none⟩ = some (.int .u8 1)) (hn : 2 ≤ n) (hcn : n ≤ c) (hmx : c ≤ maxLen) (e : Nat) (he : w.cell? ⟨ab, ao + 1, none⟩ = some (.int .u8 e)) (q : List UInt8) (hz : 4 ≤ q.length) (hzn : 4 ≤ n - 1) (hrq : Reads w w.heap.size 1 (some ⟨ab, ao + 1, none⟩) q.length (q.map bv)) (h1 : 128 ≤ e) : Calls Tryz.prog 73 #[.agg #[.string cn, .int .i64 1, .int .i64 4, .bool cnl], .slice (some ⟨ab, ao, none⟩) n c] w (GivesV ⟨1, (numN (q.take 4) : Int) - 4294967296, 0, ⟨#[]⟩⟩ 5 w) := by
  have hb0 : Bel w ((w.alloc (.cells #[.string cn, .int .i64 1, .int .i64 4, .bool cnl] 44)).alloc (.cells #[.int .i64 0, .int .i64 0, .int .u64 0, .string ⟨#[]⟩] 48)) := ((Bel.refl w).alloc _).alloc _
  have hl : (q.take 4).length = 4 := by rw [List.length_take]; omega
  have HRF := Lib.hid (fun cap (hr : Reads ((w.alloc (.cells #[.string cn, .int .i64 1, .int .i64 4, .bool cnl] 44)).alloc (.cells #[.int .i64 0, .int .i64 0, .int .u64 0, .string ⟨#[]⟩] 48)) ((w.alloc (.cells #[.string cn, .int .i64 1, .int .i64 4, .bool cnl] 44)).alloc (.cells #[.int .i64 0, .int .i64 0, .int .u64 0, .string ⟨#[]⟩] 48)).heap.size 1 (some ⟨ab, ao + 1, none⟩) (q.take 4).length ((q.take 4).map bv)) => r2ReadFixed_any (q.take 4) (some ⟨ab, ao + 1, none⟩) cap (by omega) (by omega) ((w.alloc (.cells #[.string cn, .int .i64 1, .int .i64 4, .bool cnl] 44)).alloc (.cells #[.int .i64 0, .int .i64 0, .int .u64 0, .string ⟨#[]⟩] 48)) hr)
  have hrw := (hrq.head 4 hz).belH hb0
  rw [hl] at HRF
  have HRW := Lib.hid hrw
  clear hrw hrq
  have hlt : ab < w.heap.size := World.block_lt_of_cell? (w := w) (a := ⟨ab, ao, none⟩) hd
  have hn0 : ((n : Int) == 0) = false := by rw [beq_eq_false_iff_ne]; omega
  have hnJ : (2 : Int) ≤ n := by omega
  have hnI : (1 : Int) ≤ n := by omega
  have hnc : (n : Int) ≤ c := by omega
  have hcm : (c : Int) ≤ 9223372036854775807 := by unfold maxLen at hmx; omega
  have hI4 : ((n : Int) - 1).toNat = n - 1 := by omega
  have hI5 : ((c : Int) - 1).toNat = c - 1 := by omega
  have hc1 : ¬ c = 1 := by omega
  have hq0 : (((n - 1 : Nat) : Int) == 0) = false := by rw [beq_eq_false_iff_ne]; omega
  have hq1 : (1 : Int) ≤ ((n - 1 : Nat) : Int) := by omega
  have hzI : (4 : Int) ≤ ((n - 1 : Nat) : Int) := by omega
  have hzK : (4 : Int) ≤ ((c - 1 : Nat) : Int) := by omega
  have hlN := numN_lt (q.take 4)
  rw [hl] at hlN
  generalize numN (q.take 4) = N at *
  rw [show (256 : Nat) ^ 4 = 4294967296 by decide] at hlN
  have hNI : (N : Int) ≤ 4294967295 := by omega
  have hcv : IntKind.i64.wrap (N : Int) = N := by
    simp only [IntKind.wrap, IntKind.bits, IntKind.signed]
    simp
    omega
  have hsb : IntKind.i64.wrap ((N : Int) - 4294967296) = (N : Int) - 4294967296 := by
    simp only [IntKind.wrap, IntKind.bits, IntKind.signed]
    simp
    omega
  have hdb : decide ((128 : Int) ≤ e) = true := by simp; omega
  have hdc : decide ((e : Int) ≥ 128) = true := by simp; omega
  have hzd : decide (n - 1 < 4) = false := by simp; omega
  have hw1 : IntKind.i64.wrap 5 = 5 := by decide
  have hsh : IntKind.i64.wrap (2 ^ min (IntKind.u64.wrap (IntKind.i64.wrap 32)).toNat 64) = 4294967296 := by decide
  clear hmx hcn hl hz hlN
  go_enter Tryz.func73, Tryz.ntmps73
  go_wp2_with fail
  refine (HRF.out _ HRW.out).mono ?_
  rintro e w' ⟨rfl, rfl⟩
  go_wp2
  refine wp_region_noPanic ?_
  refine wp_region_held_drew (S := (fun V : World => V.cell? ⟨w.heap.size, 2, none⟩ = some (.int .i64 4))) (by kernel_rfl) ?_ (fun hHr5_0 => ?_)
  · (try dsimp only); (first | assumption | go_simp)
  refine wpAnyH_take (i := 0) (oi := _) (v := ?vr5_1_0) rfl (by kernel_rfl) (by kernel_rfl) (by kernel_rfl) ?hqr5_1_0 (Or.inl ⟨by kernel_rfl, ?hyr5_1_0⟩) (by assumption) ?restr5_1_0
  case hqr5_1_0 => exact fun _ _ _ h => h
  case hyr5_1_0 => (intro w hSw; (try dsimp only at hSw); go_simp; try with_reducible rfl)
  try simp only [Act.put, List.getElem_toArray, List.getElem_cons_succ, List.getElem_cons_zero, List.setIfInBounds_toArray, List.set_cons_zero, List.set_cons_succ]
  refine wpAnyH_take (i := 1) (oi := _) (v := ?vr5_1_1) rfl (by kernel_rfl) (by kernel_rfl) (by kernel_rfl) ?hqr5_1_1 (Or.inl ⟨by kernel_rfl, ?hyr5_1_1⟩) (by assumption) ?restr5_1_1
  case hqr5_1_1 => exact fun _ _ _ h => h
  case hyr5_1_1 => (intro w hSw; (try dsimp only at hSw); go_simp; try with_reducible rfl)
  try simp only [Act.put, List.getElem_toArray, List.getElem_cons_succ, List.getElem_cons_zero, List.setIfInBounds_toArray, List.set_cons_zero, List.set_cons_succ]
  refine wpAnyH_take (i := 2) (oi := _) (v := ?vr5_1_2) rfl (by kernel_rfl) (by kernel_rfl) (by kernel_rfl) ?hqr5_1_2 (Or.inl ⟨by kernel_rfl, ?hyr5_1_2⟩) (by assumption) ?restr5_1_2
  case hqr5_1_2 => exact fun _ _ _ h => h
  case hyr5_1_2 => (intro w hSw; (try dsimp only at hSw); go_simp; try with_reducible rfl)
  try simp only [Act.put, List.getElem_toArray, List.getElem_cons_succ, List.getElem_cons_zero, List.setIfInBounds_toArray, List.set_cons_zero, List.set_cons_succ]
  refine wpAnyH_take (i := 3) (oi := _) (v := ?vr5_1_3) rfl (by kernel_rfl) (by kernel_rfl) (by kernel_rfl) ?hqr5_1_3 (Or.inl ⟨by kernel_rfl, ?hyr5_1_3⟩) (by assumption) ?restr5_1_3
  case hqr5_1_3 => exact fun _ _ _ h => h
  case hyr5_1_3 => (intro w hSw; (try dsimp only at hSw); go_simp; try with_reducible rfl)
  try simp only [Act.put, List.getElem_toArray, List.getElem_cons_succ, List.getElem_cons_zero, List.setIfInBounds_toArray, List.set_cons_zero, List.set_cons_succ]
  refine wpAnyH_take (i := 4) (oi := _) (v := ?vr5_1_4) rfl (by kernel_rfl) (by kernel_rfl) (by kernel_rfl) ?hqr5_1_4 (Or.inl ⟨by kernel_rfl, ?hyr5_1_4⟩) (by assumption) ?restr5_1_4
  case hqr5_1_4 => exact fun _ _ _ h => h
  case hyr5_1_4 => (intro w hSw; (try dsimp only at hSw); go_simp; try with_reducible rfl)
  try simp only [Act.put, List.getElem_toArray, List.getElem_cons_succ, List.getElem_cons_zero, List.setIfInBounds_toArray, List.set_cons_zero, List.set_cons_succ]
  refine wpAnyH_take (i := 5) (oi := _) (v := ?vr5_1_5) rfl (by kernel_rfl) (by kernel_rfl) (by kernel_rfl) ?hqr5_1_5 (Or.inl ⟨by kernel_rfl, ?hyr5_1_5⟩) (by assumption) ?restr5_1_5
  case hqr5_1_5 => exact fun _ _ _ h => h
  case hyr5_1_5 => (intro w hSw; (try dsimp only at hSw); go_simp; try with_reducible rfl)
  try simp only [Act.put, List.getElem_toArray, List.getElem_cons_succ, List.getElem_cons_zero, List.setIfInBounds_toArray, List.set_cons_zero, List.set_cons_succ]
  refine wpAnyH_take (i := 6) (oi := _) (v := ?vr5_1_6) rfl (by kernel_rfl) (by kernel_rfl) (by kernel_rfl) ?hqr5_1_6 (Or.inl ⟨by kernel_rfl, ?hyr5_1_6⟩) (by assumption) ?restr5_1_6
  case hqr5_1_6 => exact fun _ _ _ h => h
  case hyr5_1_6 => (intro w hSw; (try dsimp only at hSw); go_simp; try with_reducible rfl)
  try simp only [Act.put, List.getElem_toArray, List.getElem_cons_succ, List.getElem_cons_zero, List.setIfInBounds_toArray, List.set_cons_zero, List.set_cons_succ]
  refine wpAnyH_take (i := 7) (oi := _) (v := ?vr5_1_7) rfl (by kernel_rfl) (by kernel_rfl) (by kernel_rfl) ?hqr5_1_7 (Or.inl ⟨by kernel_rfl, ?hyr5_1_7⟩) (by assumption) ?restr5_1_7
  case hqr5_1_7 => exact fun _ _ _ h => h
  case hyr5_1_7 => (intro w hSw; (try dsimp only at hSw); go_simp; try with_reducible rfl)
  try simp only [Act.put, List.getElem_toArray, List.getElem_cons_succ, List.getElem_cons_zero, List.setIfInBounds_toArray, List.set_cons_zero, List.set_cons_succ]
  refine wpAnyH_take (i := 8) (oi := _) (v := ?vr5_1_8) rfl (by kernel_rfl) (by kernel_rfl) (by kernel_rfl) ?hqr5_1_8 (Or.inl ⟨by kernel_rfl, ?hyr5_1_8⟩) (by assumption) ?restr5_1_8
  case hqr5_1_8 => exact fun _ _ _ h => h
  case hyr5_1_8 => (intro w hSw; (try dsimp only at hSw); go_simp; try with_reducible rfl)
  try simp only [Act.put, List.getElem_toArray, List.getElem_cons_succ, List.getElem_cons_zero, List.setIfInBounds_toArray, List.set_cons_zero, List.set_cons_succ]
  refine wpAnyH_take (i := 9) (oi := _) (v := ?vr5_1_9) rfl (by kernel_rfl) (by kernel_rfl) (by kernel_rfl) ?hqr5_1_9 (Or.inl ⟨by kernel_rfl, ?hyr5_1_9⟩) (by assumption) ?restr5_1_9
  case hqr5_1_9 => exact fun _ _ _ h => h
  case hyr5_1_9 => (intro w hSw; (try dsimp only at hSw); go_simp; try with_reducible rfl)
  try simp only [Act.put, List.getElem_toArray, List.getElem_cons_succ, List.getElem_cons_zero, List.setIfInBounds_toArray, List.set_cons_zero, List.set_cons_succ]
  refine wpAnyH_take (i := 10) (oi := _) (v := ?vr5_1_10) rfl (by kernel_rfl) (by kernel_rfl) (by kernel_rfl) ?hqr5_1_10 (Or.inl ⟨by kernel_rfl, ?hyr5_1_10⟩) (by assumption) ?restr5_1_10
  case hqr5_1_10 => exact fun _ _ _ h => h
  case hyr5_1_10 => (intro w hSw; (try dsimp only at hSw); go_simp; try with_reducible rfl)
  try simp only [Act.put, List.getElem_toArray, List.getElem_cons_succ, List.getElem_cons_zero, List.setIfInBounds_toArray, List.set_cons_zero, List.set_cons_succ]
  refine wpAnyH_take (i := 11) (oi := _) (v := ?vr5_1_11) rfl (by kernel_rfl) (by kernel_rfl) (by kernel_rfl) ?hqr5_1_11 (Or.inl ⟨by kernel_rfl, ?hyr5_1_11⟩) (by assumption) ?restr5_1_11
  case hqr5_1_11 => exact fun _ _ _ h => h
  case hyr5_1_11 => (intro w hSw; (try dsimp only at hSw); go_simp; try with_reducible rfl)
  try simp only [Act.put, List.getElem_toArray, List.getElem_cons_succ, List.getElem_cons_zero, List.setIfInBounds_toArray, List.set_cons_zero, List.set_cons_succ]
  refine wpAnyH_ready (rs := [12]) (by kernel_rfl) (by simp) ?_
  refine AllReadyH.cons (o := _) rfl (fun K hK => ?_) AllReadyH.nil
  go_simp
  refine hK.out _ _ ?_ (fun hHr5_1 => ?_)
  · (try dsimp only); (first | assumption | go_simp)
  clear hK K hHr5_0
  try simp only [Act.put, List.getElem_toArray, List.getElem_cons_succ, List.getElem_cons_zero, List.setIfInBounds_toArray, List.set_cons_zero, List.set_cons_succ]
  refine wpAnyH_ready (rs := [13]) (by kernel_rfl) (by simp) ?_
  refine AllReadyH.cons (o := _) rfl (fun K hK => ?_) AllReadyH.nil
  go_simp
  refine hK.out _ _ ?_ (fun hHr5_2 => ?_)
  · (try dsimp only); (first | assumption | go_simp)
  clear hK K hHr5_1
  try simp only [Act.put, List.getElem_toArray, List.getElem_cons_succ, List.getElem_cons_zero, List.setIfInBounds_toArray, List.set_cons_zero, List.set_cons_succ]
  refine wpAnyH_done (by kernel_rfl) ?_ _
  refine NoPanic.normal ?_
  go_wp2
  refine bodyPost_ret (v := .tuple #[.agg #[.int .i64 1, .int .i64 ((N : Int) - 4294967296), .int .u64 0, .string ⟨#[]⟩], .int .i64 5]) (by simp [results, Tryz.results73, go_sem, hw1, hcv, hsh, hsb]) rfl ⟨rfl, ?_⟩
  exact by (repeat (first | exact Below.refl _ _ | assumption | exact Bel.refl _ | refine Bel.alloc ?_ _ | refine Bel.drew ?_ | refine Bel.drewN ?_ _ | refine Bel.then_ ?_ (by assumption) | refine Bel.setCell ?_ (by first | (simp; done) | (simp; omega)) _))
set_option maxRecDepth 100000 in
set_option maxHeartbeats 1000000 in
theorem r4v_int4pos (w : World) (cn : ByteArray) (cnl : Bool) (ab ao n c : Nat) (hd : w.cell? ⟨ab, ao, none⟩ = some (.int .u8 1)) (hn : 2 ≤ n) (hcn : n ≤ c) (hmx : c ≤ maxLen) (e : Nat) (he : w.cell? ⟨ab, ao + 1, none⟩ = some (.int .u8 e)) (q : List UInt8) (hz : 4 ≤ q.length) (hzn : 4 ≤ n - 1) (hrq : Reads w w.heap.size 1 (some ⟨ab, ao + 1, none⟩) q.length (q.map bv)) (h1 : e < 128) : Calls Tryz.prog 73 #[.agg #[.string cn, .int .i64 1, .int .i64 4, .bool cnl], .slice (some ⟨ab, ao, none⟩) n c] w (GivesV ⟨1, numN (q.take 4), 0, ⟨#[]⟩⟩ 5 w) := by
  have hb0 : Bel w ((w.alloc (.cells #[.string cn, .int .i64 1, .int .i64 4, .bool cnl] 44)).alloc (.cells #[.int .i64 0, .int .i64 0, .int .u64 0, .string ⟨#[]⟩] 48)) := ((Bel.refl w).alloc _).alloc _
  have hl : (q.take 4).length = 4 := by rw [List.length_take]; omega
  have HRF := Lib.hid (fun cap (hr : Reads ((w.alloc (.cells #[.string cn, .int .i64 1, .int .i64 4, .bool cnl] 44)).alloc (.cells #[.int .i64 0, .int .i64 0, .int .u64 0, .string ⟨#[]⟩] 48)) ((w.alloc (.cells #[.string cn, .int .i64 1, .int .i64 4, .bool cnl] 44)).alloc (.cells #[.int .i64 0, .int .i64 0, .int .u64 0, .string ⟨#[]⟩] 48)).heap.size 1 (some ⟨ab, ao + 1, none⟩) (q.take 4).length ((q.take 4).map bv)) => r2ReadFixed_any (q.take 4) (some ⟨ab, ao + 1, none⟩) cap (by omega) (by omega) ((w.alloc (.cells #[.string cn, .int .i64 1, .int .i64 4, .bool cnl] 44)).alloc (.cells #[.int .i64 0, .int .i64 0, .int .u64 0, .string ⟨#[]⟩] 48)) hr)
  have hrw := (hrq.head 4 hz).belH hb0
  rw [hl] at HRF
  have HRW := Lib.hid hrw
  clear hrw hrq
  have hlt : ab < w.heap.size := World.block_lt_of_cell? (w := w) (a := ⟨ab, ao, none⟩) hd
  have hn0 : ((n : Int) == 0) = false := by rw [beq_eq_false_iff_ne]; omega
  have hnJ : (2 : Int) ≤ n := by omega
  have hnI : (1 : Int) ≤ n := by omega
  have hnc : (n : Int) ≤ c := by omega
  have hcm : (c : Int) ≤ 9223372036854775807 := by unfold maxLen at hmx; omega
  have hI4 : ((n : Int) - 1).toNat = n - 1 := by omega
  have hI5 : ((c : Int) - 1).toNat = c - 1 := by omega
  have hc1 : ¬ c = 1 := by omega
  have hq0 : (((n - 1 : Nat) : Int) == 0) = false := by rw [beq_eq_false_iff_ne]; omega
  have hq1 : (1 : Int) ≤ ((n - 1 : Nat) : Int) := by omega
  have hzI : (4 : Int) ≤ ((n - 1 : Nat) : Int) := by omega
  have hzK : (4 : Int) ≤ ((c - 1 : Nat) : Int) := by omega
  have hlN := numN_lt (q.take 4)
  rw [hl] at hlN
  generalize numN (q.take 4) = N at *
  rw [show (256 : Nat) ^ 4 = 4294967296 by decide] at hlN
  have hNI : (N : Int) ≤ 4294967295 := by omega
  have hcv : IntKind.i64.wrap (N : Int) = N := by
    simp only [IntKind.wrap, IntKind.bits, IntKind.signed]
    simp
    omega
  have hsb : IntKind.i64.wrap ((N : Int) - 4294967296) = (N : Int) - 4294967296 := by
    simp only [IntKind.wrap, IntKind.bits, IntKind.signed]
    simp
    omega
  have hdb : decide ((128 : Int) ≤ e) = false := by simp; omega
  have hdc : decide ((e : Int) ≥ 128) = false := by simp; omega
  have hzd : decide (n - 1 < 4) = false := by simp; omega
  have hw1 : IntKind.i64.wrap 5 = 5 := by decide
  have hsh : IntKind.i64.wrap (2 ^ min (IntKind.u64.wrap (IntKind.i64.wrap 32)).toNat 64) = 4294967296 := by decide
  clear hmx hcn hl hz hlN
  go_enter Tryz.func73, Tryz.ntmps73
  go_wp2_with fail
  refine (HRF.out _ HRW.out).mono ?_
  rintro e w' ⟨rfl, rfl⟩
  go_wp2
  refine wp_region_noPanic ?_
  refine wp_region_held_drew (S := (fun V : World => V.cell? ⟨w.heap.size, 2, none⟩ = some (.int .i64 4))) (by kernel_rfl) ?_ (fun hHr6_0 => ?_)
  · (try dsimp only); (first | assumption | go_simp)
  refine wpAnyH_take (i := 0) (oi := _) (v := ?vr6_1_0) rfl (by kernel_rfl) (by kernel_rfl) (by kernel_rfl) ?hqr6_1_0 (Or.inl ⟨by kernel_rfl, ?hyr6_1_0⟩) (by assumption) ?restr6_1_0
  case hqr6_1_0 => exact fun _ _ _ h => h
  case hyr6_1_0 => (intro w hSw; (try dsimp only at hSw); go_simp; try with_reducible rfl)
  try simp only [Act.put, List.getElem_toArray, List.getElem_cons_succ, List.getElem_cons_zero, List.setIfInBounds_toArray, List.set_cons_zero, List.set_cons_succ]
  refine wpAnyH_take (i := 1) (oi := _) (v := ?vr6_1_1) rfl (by kernel_rfl) (by kernel_rfl) (by kernel_rfl) ?hqr6_1_1 (Or.inl ⟨by kernel_rfl, ?hyr6_1_1⟩) (by assumption) ?restr6_1_1
  case hqr6_1_1 => exact fun _ _ _ h => h
  case hyr6_1_1 => (intro w hSw; (try dsimp only at hSw); go_simp; try with_reducible rfl)
  try simp only [Act.put, List.getElem_toArray, List.getElem_cons_succ, List.getElem_cons_zero, List.setIfInBounds_toArray, List.set_cons_zero, List.set_cons_succ]
  refine wpAnyH_take (i := 2) (oi := _) (v := ?vr6_1_2) rfl (by kernel_rfl) (by kernel_rfl) (by kernel_rfl) ?hqr6_1_2 (Or.inl ⟨by kernel_rfl, ?hyr6_1_2⟩) (by assumption) ?restr6_1_2
  case hqr6_1_2 => exact fun _ _ _ h => h
  case hyr6_1_2 => (intro w hSw; (try dsimp only at hSw); go_simp; try with_reducible rfl)
  try simp only [Act.put, List.getElem_toArray, List.getElem_cons_succ, List.getElem_cons_zero, List.setIfInBounds_toArray, List.set_cons_zero, List.set_cons_succ]
  refine wpAnyH_take (i := 3) (oi := _) (v := ?vr6_1_3) rfl (by kernel_rfl) (by kernel_rfl) (by kernel_rfl) ?hqr6_1_3 (Or.inl ⟨by kernel_rfl, ?hyr6_1_3⟩) (by assumption) ?restr6_1_3
  case hqr6_1_3 => exact fun _ _ _ h => h
  case hyr6_1_3 => (intro w hSw; (try dsimp only at hSw); go_simp; try with_reducible rfl)
  try simp only [Act.put, List.getElem_toArray, List.getElem_cons_succ, List.getElem_cons_zero, List.setIfInBounds_toArray, List.set_cons_zero, List.set_cons_succ]
  refine wpAnyH_take (i := 4) (oi := _) (v := ?vr6_1_4) rfl (by kernel_rfl) (by kernel_rfl) (by kernel_rfl) ?hqr6_1_4 (Or.inl ⟨by kernel_rfl, ?hyr6_1_4⟩) (by assumption) ?restr6_1_4
  case hqr6_1_4 => exact fun _ _ _ h => h
  case hyr6_1_4 => (intro w hSw; (try dsimp only at hSw); go_simp; try with_reducible rfl)
  try simp only [Act.put, List.getElem_toArray, List.getElem_cons_succ, List.getElem_cons_zero, List.setIfInBounds_toArray, List.set_cons_zero, List.set_cons_succ]
  refine wpAnyH_take (i := 5) (oi := _) (v := ?vr6_1_5) rfl (by kernel_rfl) (by kernel_rfl) (by kernel_rfl) ?hqr6_1_5 (Or.inl ⟨by kernel_rfl, ?hyr6_1_5⟩) (by assumption) ?restr6_1_5
  case hqr6_1_5 => exact fun _ _ _ h => h
  case hyr6_1_5 => (intro w hSw; (try dsimp only at hSw); go_simp; try with_reducible rfl)
  try simp only [Act.put, List.getElem_toArray, List.getElem_cons_succ, List.getElem_cons_zero, List.setIfInBounds_toArray, List.set_cons_zero, List.set_cons_succ]
  refine wpAnyH_ready (rs := [6]) (by kernel_rfl) (by simp) ?_
  refine AllReadyH.cons (o := _) rfl (fun K hK => ?_) AllReadyH.nil
  go_simp
  refine hK.out _ _ ?_ (fun hHr6_1 => ?_)
  · (try dsimp only); (first | assumption | go_simp)
  clear hK K hHr6_0
  try simp only [Act.put, List.getElem_toArray, List.getElem_cons_succ, List.getElem_cons_zero, List.setIfInBounds_toArray, List.set_cons_zero, List.set_cons_succ]
  refine wpAnyH_ready (rs := [7]) (by kernel_rfl) (by simp) ?_
  refine AllReadyH.cons (o := _) rfl (fun K hK => ?_) AllReadyH.nil
  go_simp
  refine hK.out _ _ ?_ (fun hHr6_2 => ?_)
  · (try dsimp only); (first | assumption | go_simp)
  clear hK K hHr6_1
  try simp only [Act.put, List.getElem_toArray, List.getElem_cons_succ, List.getElem_cons_zero, List.setIfInBounds_toArray, List.set_cons_zero, List.set_cons_succ]
  refine wpAnyH_done (by kernel_rfl) ?_ _
  refine NoPanic.normal ?_
  go_wp2
  refine bodyPost_ret (v := .tuple #[.agg #[.int .i64 1, .int .i64 N, .int .u64 0, .string ⟨#[]⟩], .int .i64 5]) (by simp [results, Tryz.results73, go_sem, hw1, hcv, hsh, hsb]) rfl ⟨rfl, ?_⟩
  exact by (repeat (first | exact Below.refl _ _ | assumption | exact Bel.refl _ | refine Bel.alloc ?_ _ | refine Bel.drew ?_ | refine Bel.drewN ?_ _ | refine Bel.then_ ?_ (by assumption) | refine Bel.setCell ?_ (by first | (simp; done) | (simp; omega)) _))
set_option maxRecDepth 100000 in
set_option maxHeartbeats 1000000 in
theorem r4v_int8all (w : World) (cn : ByteArray) (cnl : Bool) (ab ao n c : Nat) (hd : w.cell? ⟨ab, ao, none⟩ = some (.int .u8 1)) (hn : 2 ≤ n) (hcn : n ≤ c) (hmx : c ≤ maxLen) (q : List UInt8) (hz : 8 ≤ q.length) (hzn : 8 ≤ n - 1) (hrq : Reads w w.heap.size 1 (some ⟨ab, ao + 1, none⟩) q.length (q.map bv)) : Calls Tryz.prog 73 #[.agg #[.string cn, .int .i64 1, .int .i64 8, .bool cnl], .slice (some ⟨ab, ao, none⟩) n c] w (GivesV ⟨1, sgnN (numN (q.take 8)) 8, 0, ⟨#[]⟩⟩ 9 w) := by
  have hb0 : Bel w ((w.alloc (.cells #[.string cn, .int .i64 1, .int .i64 8, .bool cnl] 44)).alloc (.cells #[.int .i64 0, .int .i64 0, .int .u64 0, .string ⟨#[]⟩] 48)) := ((Bel.refl w).alloc _).alloc _
  have hl : (q.take 8).length = 8 := by rw [List.length_take]; omega
  have HRF := Lib.hid (fun cap (hr : Reads ((w.alloc (.cells #[.string cn, .int .i64 1, .int .i64 8, .bool cnl] 44)).alloc (.cells #[.int .i64 0, .int .i64 0, .int .u64 0, .string ⟨#[]⟩] 48)) ((w.alloc (.cells #[.string cn, .int .i64 1, .int .i64 8, .bool cnl] 44)).alloc (.cells #[.int .i64 0, .int .i64 0, .int .u64 0, .string ⟨#[]⟩] 48)).heap.size 1 (some ⟨ab, ao + 1, none⟩) (q.take 8).length ((q.take 8).map bv)) => r2ReadFixed_any (q.take 8) (some ⟨ab, ao + 1, none⟩) cap (by omega) (by omega) ((w.alloc (.cells #[.string cn, .int .i64 1, .int .i64 8, .bool cnl] 44)).alloc (.cells #[.int .i64 0, .int .i64 0, .int .u64 0, .string ⟨#[]⟩] 48)) hr)
  have hrw := (hrq.head 8 hz).belH hb0
  rw [hl] at HRF
  have HRW := Lib.hid hrw
  clear hrw hrq
  have hlt : ab < w.heap.size := World.block_lt_of_cell? (w := w) (a := ⟨ab, ao, none⟩) hd
  have hn0 : ((n : Int) == 0) = false := by rw [beq_eq_false_iff_ne]; omega
  have hnJ : (2 : Int) ≤ n := by omega
  have hnI : (1 : Int) ≤ n := by omega
  have hnc : (n : Int) ≤ c := by omega
  have hcm : (c : Int) ≤ 9223372036854775807 := by unfold maxLen at hmx; omega
  have hI4 : ((n : Int) - 1).toNat = n - 1 := by omega
  have hI5 : ((c : Int) - 1).toNat = c - 1 := by omega
  have hc1 : ¬ c = 1 := by omega
  have hq0 : (((n - 1 : Nat) : Int) == 0) = false := by rw [beq_eq_false_iff_ne]; omega
  have hq1 : (1 : Int) ≤ ((n - 1 : Nat) : Int) := by omega
  have hzI : (8 : Int) ≤ ((n - 1 : Nat) : Int) := by omega
  have hzK : (8 : Int) ≤ ((c - 1 : Nat) : Int) := by omega
  have hlN := numN_lt (q.take 8)
  rw [hl] at hlN
  have hcv : IntKind.i64.wrap (numN (q.take 8) : Int) = sgnN (numN (q.take 8)) 8 := by
    have h8 : numN (q.take 8) < 18446744073709551616 := hlN
    rw [IntKind.wrap_i64, ← sgn_shift8 h8, wrap64]
  generalize sgnN (numN (q.take 8)) 8 = r at *
  generalize numN (q.take 8) = N at *
  have hzd : decide (n - 1 < 8) = false := by simp; omega
  have hw1 : IntKind.i64.wrap 9 = 9 := by decide
  clear hmx hcn hl hz hlN
  go_enter Tryz.func73, Tryz.ntmps73
  go_wp2_with fail
  refine (HRF.out _ HRW.out).mono ?_
  rintro e w' ⟨rfl, rfl⟩
  go_wp2
  refine wp_region_noPanic ?_
  refine wp_region_held_drew (S := (fun V : World => V.cell? ⟨w.heap.size, 2, none⟩ = some (.int .i64 8))) (by kernel_rfl) ?_ (fun hHr7_0 => ?_)
  · (try dsimp only); (first | assumption | go_simp)
  refine wpAnyH_take (i := 0) (oi := _) (v := ?vr7_1_0) rfl (by kernel_rfl) (by kernel_rfl) (by kernel_rfl) ?hqr7_1_0 (Or.inl ⟨by kernel_rfl, ?hyr7_1_0⟩) (by assumption) ?restr7_1_0
  case hqr7_1_0 => exact fun _ _ _ h => h
  case hyr7_1_0 => (intro w hSw; (try dsimp only at hSw); go_simp; try with_reducible rfl)
  try simp only [Act.put, List.getElem_toArray, List.getElem_cons_succ, List.getElem_cons_zero, List.setIfInBounds_toArray, List.set_cons_zero, List.set_cons_succ]
  refine wpAnyH_take (i := 1) (oi := _) (v := ?vr7_1_1) rfl (by kernel_rfl) (by kernel_rfl) (by kernel_rfl) ?hqr7_1_1 (Or.inl ⟨by kernel_rfl, ?hyr7_1_1⟩) (by assumption) ?restr7_1_1
  case hqr7_1_1 => exact fun _ _ _ h => h
  case hyr7_1_1 => (intro w hSw; (try dsimp only at hSw); go_simp; try with_reducible rfl)
  try simp only [Act.put, List.getElem_toArray, List.getElem_cons_succ, List.getElem_cons_zero, List.setIfInBounds_toArray, List.set_cons_zero, List.set_cons_succ]
  refine wpAnyH_take (i := 2) (oi := _) (v := ?vr7_1_2) rfl (by kernel_rfl) (by kernel_rfl) (by kernel_rfl) ?hqr7_1_2 (Or.inl ⟨by kernel_rfl, ?hyr7_1_2⟩) (by assumption) ?restr7_1_2
  case hqr7_1_2 => exact fun _ _ _ h => h
  case hyr7_1_2 => (intro w hSw; (try dsimp only at hSw); go_simp; try with_reducible rfl)
  try simp only [Act.put, List.getElem_toArray, List.getElem_cons_succ, List.getElem_cons_zero, List.setIfInBounds_toArray, List.set_cons_zero, List.set_cons_succ]
  refine wpAnyH_take (i := 3) (oi := _) (v := ?vr7_1_3) rfl (by kernel_rfl) (by kernel_rfl) (by kernel_rfl) ?hqr7_1_3 (Or.inl ⟨by kernel_rfl, ?hyr7_1_3⟩) (by assumption) ?restr7_1_3
  case hqr7_1_3 => exact fun _ _ _ h => h
  case hyr7_1_3 => (intro w hSw; (try dsimp only at hSw); go_simp; try with_reducible rfl)
  try simp only [Act.put, List.getElem_toArray, List.getElem_cons_succ, List.getElem_cons_zero, List.setIfInBounds_toArray, List.set_cons_zero, List.set_cons_succ]
  refine wpAnyH_take (i := 4) (oi := _) (v := ?vr7_1_4) rfl (by kernel_rfl) (by kernel_rfl) (by kernel_rfl) ?hqr7_1_4 (Or.inl ⟨by kernel_rfl, ?hyr7_1_4⟩) (by assumption) ?restr7_1_4
  case hqr7_1_4 => exact fun _ _ _ h => h
  case hyr7_1_4 => (intro w hSw; (try dsimp only at hSw); go_simp; try with_reducible rfl)
  try simp only [Act.put, List.getElem_toArray, List.getElem_cons_succ, List.getElem_cons_zero, List.setIfInBounds_toArray, List.set_cons_zero, List.set_cons_succ]
  refine wpAnyH_take (i := 5) (oi := _) (v := ?vr7_1_5) rfl (by kernel_rfl) (by kernel_rfl) (by kernel_rfl) ?hqr7_1_5 (Or.inl ⟨by kernel_rfl, ?hyr7_1_5⟩) (by assumption) ?restr7_1_5
  case hqr7_1_5 => exact fun _ _ _ h => h
  case hyr7_1_5 => (intro w hSw; (try dsimp only at hSw); go_simp; try with_reducible rfl)
  try simp only [Act.put, List.getElem_toArray, List.getElem_cons_succ, List.getElem_cons_zero, List.setIfInBounds_toArray, List.set_cons_zero, List.set_cons_succ]
  refine wpAnyH_ready (rs := [6]) (by kernel_rfl) (by simp) ?_
  refine AllReadyH.cons (o := _) rfl (fun K hK => ?_) AllReadyH.nil
  go_simp
  refine hK.out _ _ ?_ (fun hHr7_1 => ?_)
  · (try dsimp only); (first | assumption | go_simp)
  clear hK K hHr7_0
  try simp only [Act.put, List.getElem_toArray, List.getElem_cons_succ, List.getElem_cons_zero, List.setIfInBounds_toArray, List.set_cons_zero, List.set_cons_succ]
  refine wpAnyH_ready (rs := [7]) (by kernel_rfl) (by simp) ?_
  refine AllReadyH.cons (o := _) rfl (fun K hK => ?_) AllReadyH.nil
  go_simp
  refine hK.out _ _ ?_ (fun hHr7_2 => ?_)
  · (try dsimp only); (first | assumption | go_simp)
  clear hK K hHr7_1
  try simp only [Act.put, List.getElem_toArray, List.getElem_cons_succ, List.getElem_cons_zero, List.setIfInBounds_toArray, List.set_cons_zero, List.set_cons_succ]
  refine wpAnyH_done (by kernel_rfl) ?_ _
  refine NoPanic.normal ?_
  go_wp2
  refine bodyPost_ret (v := .tuple #[.agg #[.int .i64 1, .int .i64 r, .int .u64 0, .string ⟨#[]⟩], .int .i64 9]) (by simp [results, Tryz.results73, go_sem, hw1, hcv]) rfl ⟨rfl, ?_⟩
  exact by (repeat (first | exact Below.refl _ _ | assumption | exact Bel.refl _ | refine Bel.alloc ?_ _ | refine Bel.drew ?_ | refine Bel.drewN ?_ _ | refine Bel.then_ ?_ (by assumption) | refine Bel.setCell ?_ (by first | (simp; done) | (simp; omega)) _))
end Go.Proofs.YtkklmflclmgjeaaGreatDoor

/-
  The codec: the document's value: text.
-/
set_option linter.unusedVariables false
set_option linter.unusedSimpArgs false
set_option linter.unusedVariables false
set_option linter.unusedSimpArgs false
namespace Go.Proofs.YtkklmflclmgjeaaGreatDoor
open Go.RowKit Go.Shelf Go.Lib

set_option maxRecDepth 100000 in
set_option maxHeartbeats 1000000 in
theorem r4v_text0 (w : World) (cn : ByteArray) (z : Nat) (cnl : Bool) (ab ao c : Nat) (hd : w.cell? ⟨ab, ao, none⟩ = some (.int .u8 1)) (hn : 1 ≤ c) (hmx : c ≤ maxLen) : Calls Tryz.prog 73 #[.agg #[.string cn, .int .i64 4, .int .i64 z, .bool cnl], .slice (some ⟨ab, ao, none⟩) 1 c] w (GivesV noVal 0 w) := by
  have hlt : ab < w.heap.size := World.block_lt_of_cell? (w := w) (a := ⟨ab, ao, none⟩) hd
  have hnc : (1 : Int) ≤ c := by omega
  have HT := Lib.hid (fun A cap (h : 0 ≤ cap ∧ cap ≤ maxLen) => r2ReadText_any (.slice A 0 cap) [] (by simp) ((w.alloc (.cells #[.string cn, .int .i64 4, .int .i64 z, .bool cnl] 44)).alloc (.cells #[.int .i64 0, .int .i64 0, .int .u64 0, .string ⟨#[]⟩] 48)) ⟨A, cap, rfl, h.1, h.2, rfl, fun h => by simp at h⟩)
  simp only [show rdText ([] : List UInt8) = none from rfl, textV] at HT
  have HM := Lib.hid (And.intro (Nat.zero_le (c - 1)) (Nat.le_trans (Nat.sub_le c 1) hmx))
  have HM0 := Lib.hid (And.intro (Nat.zero_le 0) (Nat.zero_le maxLen))
  have hcm : (c : Int) ≤ 9223372036854775807 := by unfold maxLen at hmx; omega
  have hI5 : ((c : Int) - 1).toNat = c - 1 := by omega
  clear hmx hn
  by_cases hc1 : c = 1
  · subst hc1
    go_enter Tryz.func73, Tryz.ntmps73
    go_wp2_with fail
    refine (HT.out _ _ HM0.out).mono ?_
    rintro e w' ⟨rfl, rfl⟩
    go_wp2
    refine bodyPost_ret (v := .tuple #[.agg #[.int .i64 0, .int .i64 0, .int .u64 0, .string ⟨#[]⟩], .int .i64 0]) (by simp [results, Tryz.results73, go_sem]) rfl ⟨rfl, ?_⟩
    exact by (repeat (first | exact Below.refl _ _ | assumption | exact Bel.refl _ | refine Bel.alloc ?_ _ | refine Bel.drew ?_ | refine Bel.drewN ?_ _ | refine Bel.then_ ?_ (by assumption) | refine Bel.setCell ?_ (by first | (simp; done) | (simp; omega)) _))

  · go_enter Tryz.func73, Tryz.ntmps73
    go_wp2_with fail
    refine (HT.out _ _ HM.out).mono ?_
    rintro e w' ⟨rfl, rfl⟩
    go_wp2
    refine bodyPost_ret (v := .tuple #[.agg #[.int .i64 0, .int .i64 0, .int .u64 0, .string ⟨#[]⟩], .int .i64 0]) (by simp [results, Tryz.results73, go_sem]) rfl ⟨rfl, ?_⟩
    exact by (repeat (first | exact Below.refl _ _ | assumption | exact Bel.refl _ | refine Bel.alloc ?_ _ | refine Bel.drew ?_ | refine Bel.drewN ?_ _ | refine Bel.then_ ?_ (by assumption) | refine Bel.setCell ?_ (by first | (simp; done) | (simp; omega)) _))
set_option maxRecDepth 100000 in
set_option maxHeartbeats 1000000 in
theorem r4v_textNone (w : World) (cn : ByteArray) (z : Nat) (cnl : Bool) (ab ao n c : Nat) (hd : w.cell? ⟨ab, ao, none⟩ = some (.int .u8 1)) (hn : 2 ≤ n) (hcn : n ≤ c) (hmx : c ≤ maxLen) (q : List UInt8) (hs : q.length ≤ 1000000) (hqn : q.length = n - 1) (hrq : Reads w w.heap.size 1 (some ⟨ab, ao + 1, none⟩) q.length (q.map bv)) (hr : rdText q = none) : Calls Tryz.prog 73 #[.agg #[.string cn, .int .i64 4, .int .i64 z, .bool cnl], .slice (some ⟨ab, ao, none⟩) n c] w (GivesV noVal 0 w) := by
  have hb0 : Bel w ((w.alloc (.cells #[.string cn, .int .i64 4, .int .i64 z, .bool cnl] 44)).alloc (.cells #[.int .i64 0, .int .i64 0, .int .u64 0, .string ⟨#[]⟩] 48)) := ((Bel.refl w).alloc _).alloc _
  have HT := Lib.hid (r2ReadText_any (.slice (some ⟨ab, ao + 1, none⟩) q.length (c - 1)) q hs ((w.alloc (.cells #[.string cn, .int .i64 4, .int .i64 z, .bool cnl] 44)).alloc (.cells #[.int .i64 0, .int .i64 0, .int .u64 0, .string ⟨#[]⟩] 48)) ⟨_, _, rfl, by omega, by omega, hrq.belH hb0⟩)
  rw [hr, hqn] at HT
  simp only [textV] at HT
  have hlt : ab < w.heap.size := World.block_lt_of_cell? (w := w) (a := ⟨ab, ao, none⟩) hd
  have hn0 : ((n : Int) == 0) = false := by rw [beq_eq_false_iff_ne]; omega
  have hnJ : (2 : Int) ≤ n := by omega
  have hnI : (1 : Int) ≤ n := by omega
  have hnc : (n : Int) ≤ c := by omega
  have hcm : (c : Int) ≤ 9223372036854775807 := by unfold maxLen at hmx; omega
  have hI4 : ((n : Int) - 1).toNat = n - 1 := by omega
  have hI5 : ((c : Int) - 1).toNat = c - 1 := by omega
  have hc1 : ¬ c = 1 := by omega
  have hq0 : (((n - 1 : Nat) : Int) == 0) = false := by rw [beq_eq_false_iff_ne]; omega
  have hq1 : (1 : Int) ≤ ((n - 1 : Nat) : Int) := by omega
  clear hmx hcn hqn hrq hr hs
  go_enter Tryz.func73, Tryz.ntmps73
  go_wp2_with fail
  refine HT.out.mono ?_
  rintro e w' ⟨rfl, rfl⟩
  go_wp2
  refine bodyPost_ret (v := .tuple #[.agg #[.int .i64 0, .int .i64 0, .int .u64 0, .string ⟨#[]⟩], .int .i64 0]) (by simp [results, Tryz.results73, go_sem]) rfl ⟨rfl, ?_⟩
  exact by (repeat (first | exact Below.refl _ _ | assumption | exact Bel.refl _ | refine Bel.alloc ?_ _ | refine Bel.drew ?_ | refine Bel.drewN ?_ _ | refine Bel.then_ ?_ (by assumption) | refine Bel.setCell ?_ (by first | (simp; done) | (simp; omega)) _))
set_option maxRecDepth 100000 in
set_option maxHeartbeats 1000000 in
theorem r4v_textLong (w : World) (cn : ByteArray) (z : Nat) (cnl : Bool) (ab ao n c : Nat) (hd : w.cell? ⟨ab, ao, none⟩ = some (.int .u8 1)) (hn : 2 ≤ n) (hcn : n ≤ c) (hmx : c ≤ maxLen) (q : List UInt8) (hs : q.length ≤ 1000000) (hqn : q.length = n - 1) (hrq : Reads w w.heap.size 1 (some ⟨ab, ao + 1, none⟩) q.length (q.map bv)) (x : List UInt8) (m : Nat) (hr : rdText q = some (x, m)) (hx : z < x.length) : Calls Tryz.prog 73 #[.agg #[.string cn, .int .i64 4, .int .i64 z, .bool cnl], .slice (some ⟨ab, ao, none⟩) n c] w (GivesV noVal 0 w) := by
  have hb0 : Bel w ((w.alloc (.cells #[.string cn, .int .i64 4, .int .i64 z, .bool cnl] 44)).alloc (.cells #[.int .i64 0, .int .i64 0, .int .u64 0, .string ⟨#[]⟩] 48)) := ((Bel.refl w).alloc _).alloc _
  have HT := Lib.hid (r2ReadText_any (.slice (some ⟨ab, ao + 1, none⟩) q.length (c - 1)) q hs ((w.alloc (.cells #[.string cn, .int .i64 4, .int .i64 z, .bool cnl] 44)).alloc (.cells #[.int .i64 0, .int .i64 0, .int .u64 0, .string ⟨#[]⟩] 48)) ⟨_, _, rfl, by omega, by omega, hrq.belH hb0⟩)
  rw [hr, hqn] at HT
  simp only [textV] at HT
  have hlt : ab < w.heap.size := World.block_lt_of_cell? (w := w) (a := ⟨ab, ao, none⟩) hd
  have hn0 : ((n : Int) == 0) = false := by rw [beq_eq_false_iff_ne]; omega
  have hnJ : (2 : Int) ≤ n := by omega
  have hnI : (1 : Int) ≤ n := by omega
  have hnc : (n : Int) ≤ c := by omega
  have hcm : (c : Int) ≤ 9223372036854775807 := by unfold maxLen at hmx; omega
  have hI4 : ((n : Int) - 1).toNat = n - 1 := by omega
  have hI5 : ((c : Int) - 1).toNat = c - 1 := by omega
  have hc1 : ¬ c = 1 := by omega
  have hq0 : (((n - 1 : Nat) : Int) == 0) = false := by rw [beq_eq_false_iff_ne]; omega
  have hq1 : (1 : Int) ≤ ((n - 1 : Nat) : Int) := by omega
  obtain ⟨hml, hm1, -, hxs⟩ := rdText_back hr
  have hmI : (m : Int) ≤ 1000000 := by omega
  have hcz : IntKind.i64.wrap (1 + (m : Int)) = ((1 + m : Nat) : Int) := by
    simp only [IntKind.wrap, IntKind.bits, IntKind.signed]
    simp
    omega
  obtain ⟨X, hX⟩ : ∃ X : ByteArray, X = ⟨x.toArray⟩ := ⟨_, rfl⟩
  have hXs : X.size = x.length := by rw [hX]; rfl
  unfold strV at HT
  rw [← hX] at HT
  have hxB : decide ((X.size : Int) ≤ z) = false := by rw [hXs]; simp; omega
  have hxC : decide ((X.size : Int) > z) = true := by rw [hXs]; simp; omega
  have hxD : decide ((z : Int) < X.size) = true := by rw [hXs]; simp; omega
  have hxE : decide (z < X.size) = true := by rw [hXs]; simp; omega
  have hXI : (X.size : Int) ≤ 1000000 := by omega
  clear hX hXs hx hxs hml hm1
  clear hmx hcn hqn hrq hr hs
  go_enter Tryz.func73, Tryz.ntmps73
  go_wp2_with fail
  refine HT.out.mono ?_
  rintro e w' ⟨rfl, rfl⟩
  go_wp2
  refine bodyPost_ret (v := .tuple #[.agg #[.int .i64 0, .int .i64 0, .int .u64 0, .string ⟨#[]⟩], .int .i64 0]) (by simp [results, Tryz.results73, go_sem]) rfl ⟨rfl, ?_⟩
  exact by (repeat (first | exact Below.refl _ _ | assumption | exact Bel.refl _ | refine Bel.alloc ?_ _ | refine Bel.drew ?_ | refine Bel.drewN ?_ _ | refine Bel.then_ ?_ (by assumption) | refine Bel.setCell ?_ (by first | (simp; done) | (simp; omega)) _))
set_option maxRecDepth 100000 in
set_option maxHeartbeats 1000000 in
theorem r4v_text (w : World) (cn : ByteArray) (z : Nat) (cnl : Bool) (ab ao n c : Nat) (hd : w.cell? ⟨ab, ao, none⟩ = some (.int .u8 1)) (hn : 2 ≤ n) (hcn : n ≤ c) (hmx : c ≤ maxLen) (q : List UInt8) (hs : q.length ≤ 1000000) (hqn : q.length = n - 1) (hrq : Reads w w.heap.size 1 (some ⟨ab, ao + 1, none⟩) q.length (q.map bv)) (x : List UInt8) (m : Nat) (hr : rdText q = some (x, m)) (hx : x.length ≤ z) : Calls Tryz.prog 73 #[.agg #[.string cn, .int .i64 4, .int .i64 z, .bool cnl], .slice (some ⟨ab, ao, none⟩) n c] w (GivesV ⟨4, 0, 0, ⟨x.toArray⟩⟩ (1 + m) w) := by
  have hb0 : Bel w ((w.alloc (.cells #[.string cn, .int .i64 4, .int .i64 z, .bool cnl] 44)).alloc (.cells #[.int .i64 0, .int .i64 0, .int .u64 0, .string ⟨#[]⟩] 48)) := ((Bel.refl w).alloc _).alloc _
  have HT := Lib.hid (r2ReadText_any (.slice (some ⟨ab, ao + 1, none⟩) q.length (c - 1)) q hs ((w.alloc (.cells #[.string cn, .int .i64 4, .int .i64 z, .bool cnl] 44)).alloc (.cells #[.int .i64 0, .int .i64 0, .int .u64 0, .string ⟨#[]⟩] 48)) ⟨_, _, rfl, by omega, by omega, hrq.belH hb0⟩)
  rw [hr, hqn] at HT
  simp only [textV] at HT
  have hlt : ab < w.heap.size := World.block_lt_of_cell? (w := w) (a := ⟨ab, ao, none⟩) hd
  have hn0 : ((n : Int) == 0) = false := by rw [beq_eq_false_iff_ne]; omega
  have hnJ : (2 : Int) ≤ n := by omega
  have hnI : (1 : Int) ≤ n := by omega
  have hnc : (n : Int) ≤ c := by omega
  have hcm : (c : Int) ≤ 9223372036854775807 := by unfold maxLen at hmx; omega
  have hI4 : ((n : Int) - 1).toNat = n - 1 := by omega
  have hI5 : ((c : Int) - 1).toNat = c - 1 := by omega
  have hc1 : ¬ c = 1 := by omega
  have hq0 : (((n - 1 : Nat) : Int) == 0) = false := by rw [beq_eq_false_iff_ne]; omega
  have hq1 : (1 : Int) ≤ ((n - 1 : Nat) : Int) := by omega
  obtain ⟨hml, hm1, -, hxs⟩ := rdText_back hr
  have hmI : (m : Int) ≤ 1000000 := by omega
  have hcz : IntKind.i64.wrap (1 + (m : Int)) = ((1 + m : Nat) : Int) := by
    simp only [IntKind.wrap, IntKind.bits, IntKind.signed]
    simp
    omega
  obtain ⟨X, hX⟩ : ∃ X : ByteArray, X = ⟨x.toArray⟩ := ⟨_, rfl⟩
  have hXs : X.size = x.length := by rw [hX]; rfl
  unfold strV at HT
  rw [← hX] at HT ⊢
  have hxB : decide ((X.size : Int) ≤ z) = true := by rw [hXs]; simp; omega
  have hxC : decide ((X.size : Int) > z) = false := by rw [hXs]; simp; omega
  have hxD : decide ((z : Int) < X.size) = false := by rw [hXs]; simp; omega
  have hxE : decide (z < X.size) = false := by rw [hXs]; simp; omega
  have hXI : (X.size : Int) ≤ 1000000 := by omega
  clear hX hXs hx hxs hml hm1
  clear hmx hcn hqn hrq hr hs
  go_enter Tryz.func73, Tryz.ntmps73
  go_wp2_with fail
  refine HT.out.mono ?_
  rintro e w' ⟨rfl, rfl⟩
  go_wp2
  refine bodyPost_ret (v := .tuple #[.agg #[.int .i64 4, .int .i64 0, .int .u64 0, .string X], .int .i64 ((1 + m : Nat) : Int)]) (by simp [results, Tryz.results73, go_sem, hcz]) rfl ⟨rfl, ?_⟩
  exact by (repeat (first | exact Below.refl _ _ | assumption | exact Bel.refl _ | refine Bel.alloc ?_ _ | refine Bel.drew ?_ | refine Bel.drewN ?_ _ | refine Bel.then_ ?_ (by assumption) | refine Bel.setCell ?_ (by first | (simp; done) | (simp; omega)) _))
end Go.Proofs.YtkklmflclmgjeaaGreatDoor

/-
  The codec: the document's value at any column.
-/
set_option linter.unusedVariables false
set_option linter.unusedSimpArgs false
set_option linter.unusedVariables false
set_option linter.unusedSimpArgs false
namespace Go.Proofs.YtkklmflclmgjeaaGreatDoor
open Go.RowKit Go.Shelf Go.Lib

def valR : Option (Val × Nat) → Val × Nat
  | some p => p
  | none => (noVal, 0)
theorem sgn_top {e : UInt8} {t : List UInt8} {z : Nat} (hz : z = t.length + 1) : (sgnN (numN (e :: t)) z = if 128 ≤ e.toNat then (numN (e :: t) : Int) - (256 ^ z : Nat) else numN (e :: t)) := by
  subst hz
  have h1 := numN_lt t
  have h2 : numN (e :: t) = e.toNat * 256 ^ t.length + numN t := numN_cons e t
  unfold sgnN
  have h3 : 256 ^ (t.length + 1) = 256 * 256 ^ t.length := by rw [Nat.pow_succ, Nat.mul_comm]
  by_cases he : 128 ≤ e.toNat
  · have : 128 * 256 ^ t.length ≤ e.toNat * 256 ^ t.length := Nat.mul_le_mul_right _ he
    rw [if_pos he, if_neg (by omega)]
  · have : e.toNat * 256 ^ t.length ≤ 127 * 256 ^ t.length := Nat.mul_le_mul_right _ (by omega)
    rw [if_neg he, if_pos (by omega)]
theorem r4value_any (c : Col) (hr : rightB c = true) (vb : Value) (s : List UInt8) (hs : s.length ≤ 1000000) (w : World) (hb : BsAt w vb s) : Calls Tryz.prog 73 #[c.v, vb] w (GivesV (valR (rdVal c s)).1 (valR (rdVal c s)).2 w) := by
  obtain ⟨A, cap, rfl, hn, hmx, hrd⟩ := hb
  obtain ⟨ht1, ht4, hnm, hzz⟩ := right_parts hr
  obtain ⟨cn, ct, cz, cnl⟩ := c
  unfold Col.v
  dsimp only at *
  cases s with
  | nil => exact r4v_nil w cn ct cz cnl A cap
  | cons d q =>
    obtain ⟨⟨ab, ao, asp⟩, rfl, hblt, hcc⟩ := hrd.2 (by simp)
    have hd' : w.cell? ⟨ab, ao, asp⟩ = some (bv d) := by have := hcc 0 (bv d) (by simp); simpa [Addr.add] using this
    have hd : w.cell? ⟨ab, ao, asp⟩ = some (.int .u8 d.toNat) := hd'
    obtain rfl : asp = none := World.cell?_spot hd
    have h1n : 1 ≤ (d :: q).length := by simp
    by_cases h1 : d.toNat = 1
    · rw [h1] at hd
      rw [rdVal_cons, if_pos h1]
      have hqn : (d :: q).length - 1 = q.length := by simp
      have hql : q.length ≤ 1000000 := by rw [List.length_cons] at hs; omega
      have hrq : Reads w w.heap.size 1 (some ⟨ab, ao + 1, none⟩) q.length (q.map bv) := hrd.rest 1 h1n
      have hcs : ct = 1 ∨ ct = 2 ∨ ct = 3 ∨ ct = 4 := by omega
      unfold rdBody
      dsimp only
      rcases hcs with rfl | rfl | rfl | rfl
      · rw [if_pos rfl]
        rcases size_num (.inl rfl) hzz with rfl | rfl | rfl | rfl
        · rw [show Int.toNat 1 = 1 from rfl]
          by_cases hl : q.length < 1
          · rw [if_pos hl]; exact r4v_short1 w cn cnl ab ao _ cap hd h1n hn hmx 1 (by omega) (by rw [hqn]; exact hl)
          · rw [if_neg hl]
            cases q with
            | nil => simp at hl
            | cons e t =>
              have he : w.cell? ⟨ab, ao + 1, none⟩ = some (.int .u8 e.toNat) := by
                obtain ⟨ad2, e2, -, hc2⟩ := hrq.2 (by simp)
                cases e2
                have := hc2 0 (bv e) (by simp)
                rw [add_free] at this
                exact this
              have hsg := sgn_top (e := e) (t := t.take 0) (z := 1) (by rw [List.length_take]; simp at hl; omega)
              rw [show e :: t.take 0 = (e :: t).take 1 from rfl] at hsg
              by_cases h128 : 128 ≤ e.toNat
              · rw [if_pos h128] at hsg
                rw [hsg]
                exact r4v_int1neg w cn cnl ab ao _ cap hd (by simp) hn hmx e.toNat he (e :: t) (by omega) (by rw [hqn]; omega) hrq h128
              · rw [if_neg h128] at hsg
                rw [hsg]
                exact r4v_int1pos w cn cnl ab ao _ cap hd (by simp) hn hmx e.toNat he (e :: t) (by omega) (by rw [hqn]; omega) hrq (by omega)
        · rw [show Int.toNat 2 = 2 from rfl]
          by_cases hl : q.length < 2
          · rw [if_pos hl]; exact r4v_short1 w cn cnl ab ao _ cap hd h1n hn hmx 2 (by omega) (by rw [hqn]; exact hl)
          · rw [if_neg hl]
            cases q with
            | nil => simp at hl
            | cons e t =>
              have he : w.cell? ⟨ab, ao + 1, none⟩ = some (.int .u8 e.toNat) := by
                obtain ⟨ad2, e2, -, hc2⟩ := hrq.2 (by simp)
                cases e2
                have := hc2 0 (bv e) (by simp)
                rw [add_free] at this
                exact this
              have hsg := sgn_top (e := e) (t := t.take 1) (z := 2) (by rw [List.length_take]; simp at hl; omega)
              rw [show e :: t.take 1 = (e :: t).take 2 from rfl] at hsg
              by_cases h128 : 128 ≤ e.toNat
              · rw [if_pos h128] at hsg
                rw [hsg]
                exact r4v_int2neg w cn cnl ab ao _ cap hd (by simp) hn hmx e.toNat he (e :: t) (by omega) (by rw [hqn]; omega) hrq h128
              · rw [if_neg h128] at hsg
                rw [hsg]
                exact r4v_int2pos w cn cnl ab ao _ cap hd (by simp) hn hmx e.toNat he (e :: t) (by omega) (by rw [hqn]; omega) hrq (by omega)
        · rw [show Int.toNat 4 = 4 from rfl]
          by_cases hl : q.length < 4
          · rw [if_pos hl]; exact r4v_short1 w cn cnl ab ao _ cap hd h1n hn hmx 4 (by omega) (by rw [hqn]; exact hl)
          · rw [if_neg hl]
            cases q with
            | nil => simp at hl
            | cons e t =>
              have he : w.cell? ⟨ab, ao + 1, none⟩ = some (.int .u8 e.toNat) := by
                obtain ⟨ad2, e2, -, hc2⟩ := hrq.2 (by simp)
                cases e2
                have := hc2 0 (bv e) (by simp)
                rw [add_free] at this
                exact this
              have hsg := sgn_top (e := e) (t := t.take 3) (z := 4) (by rw [List.length_take]; simp at hl; omega)
              rw [show e :: t.take 3 = (e :: t).take 4 from rfl] at hsg
              by_cases h128 : 128 ≤ e.toNat
              · rw [if_pos h128] at hsg
                rw [hsg]
                exact r4v_int4neg w cn cnl ab ao _ cap hd (by simp) hn hmx e.toNat he (e :: t) (by omega) (by rw [hqn]; omega) hrq h128
              · rw [if_neg h128] at hsg
                rw [hsg]
                exact r4v_int4pos w cn cnl ab ao _ cap hd (by simp) hn hmx e.toNat he (e :: t) (by omega) (by rw [hqn]; omega) hrq (by omega)
        · rw [show Int.toNat 8 = 8 from rfl]
          by_cases hl : q.length < 8
          · rw [if_pos hl]; exact r4v_short1 w cn cnl ab ao _ cap hd h1n hn hmx 8 (by omega) (by rw [hqn]; exact hl)
          · rw [if_neg hl]
            exact r4v_int8all w cn cnl ab ao _ cap hd (by rw [List.length_cons]; omega) hn hmx q (by omega) (by rw [hqn]; omega) hrq
      · rw [if_neg (by decide), if_pos rfl]
        have hz := size_num (.inr rfl) hzz
        obtain ⟨k, rfl⟩ : ∃ k : Nat, cz = k := ⟨cz.toNat, by omega⟩
        rw [Int.toNat_natCast]
        by_cases hl : q.length < k
        · rw [if_pos hl]; exact r4v_short2 w cn cnl ab ao _ cap hd h1n hn hmx k (by omega) (by rw [hqn]; exact hl)
        · rw [if_neg hl]
          exact r4v_uint w cn cnl ab ao _ cap hd (by rw [List.length_cons]; omega) hn hmx k (by omega) (by omega) q (by omega) (by rw [hqn]; omega) hrq
      · rw [if_neg (by decide), if_neg (by decide), if_pos rfl]
        cases q with
        | nil => exact r4v_bool0 w cn cz cnl ab ao cap hd (by simpa using hn) hmx
        | cons e t =>
          have he : w.cell? ⟨ab, ao + 1, none⟩ = some (.int .u8 e.toNat) := by
            obtain ⟨ad2, e2, -, hc2⟩ := hrq.2 (by simp)
            cases e2
            have := hc2 0 (bv e) (by simp)
            rw [add_free] at this
            exact this
          dsimp only
          by_cases h128 : 1 < e.toNat
          · rw [if_pos h128]; exact r4v_boolBad w cn cz cnl ab ao _ cap hd (by simp) hn hmx e.toNat he h128
          · rw [if_neg h128]; exact r4v_bool w cn cz cnl ab ao _ cap hd (by simp) hn hmx e.toNat he (by omega)
      · rw [if_neg (by decide), if_neg (by decide), if_neg (by decide)]
        have hz0 : 0 ≤ cz := by
          unfold sizeB at hzz
          simp at hzz
          omega
        obtain ⟨k, rfl⟩ : ∃ k : Nat, cz = k := ⟨cz.toNat, by omega⟩
        cases q with
        | nil => exact r4v_text0 w cn k cnl ab ao cap hd (by simpa using hn) hmx
        | cons e t =>
          cases hx : rdText (e :: t) with
          | none => exact r4v_textNone w cn k cnl ab ao _ cap hd (by simp) hn hmx (e :: t) hql (by simp) hrq hx
          | some p =>
            obtain ⟨x, m⟩ := p
            dsimp only
            by_cases hlx : (k : Int) < x.length
            · rw [if_pos hlx]; exact r4v_textLong w cn k cnl ab ao _ cap hd (by simp) hn hmx (e :: t) hql (by simp) hrq x m hx (by omega)
            · rw [if_neg hlx]; exact r4v_text w cn k cnl ab ao _ cap hd (by simp) hn hmx (e :: t) hql (by simp) hrq x m hx (by omega)
    · by_cases h0 : d.toNat = 0 ∧ cnl = true
      · obtain ⟨hz, rfl⟩ := h0
        rw [rdVal_cons, if_neg h1, if_pos ⟨hz, rfl⟩]
        rw [hz] at hd
        exact r4v_null w cn ct cz ab ao _ cap hd h1n
      · rw [rdVal_cons, if_neg h1, if_neg h0]
        by_cases hz : d.toNat = 0
        · have hnl : cnl = false := by cases cnl; rfl; exact absurd ⟨hz, rfl⟩ h0
          subst hnl
          rw [hz] at hd
          exact r4v_nonull w cn ct cz ab ao _ cap hd h1n
        · exact r4v_bad w cn ct cz cnl ab ao _ cap d.toNat hd h1n (by omega)
end Go.Proofs.YtkklmflclmgjeaaGreatDoor

/-
  The codec: the document's Read.
-/
set_option linter.unusedVariables false
set_option linter.unusedSimpArgs false
set_option linter.unusedVariables false
set_option linter.unusedSimpArgs false
namespace Go.Proofs.YtkklmflclmgjeaaGreatDoor
open Go.RowKit Go.Shelf Go.Lib

/-- What the document's Read hands back. -/
def GivesRead4 (o : Option (List Val × Nat)) (w : World) (e : Ending) (w' : World) : Prop := match o with
  | some (l, m) => ∃ v, e = .returned (.tuple #[v, .int .i64 m]) ∧ w'.ownsRow (w.heap.size + 1) 48 4 v l.length (vrows l) ∧ Bel w w'
  | none => e = .returned (.tuple #[.slice none 0 0, .int .i64 0]) ∧ Bel w w'
theorem wp_meet {P : Program} {c : Code} {Q Q' : Exit → Act → World → Prop} {a : Act} {w : World} (h : c.wp P Q' a w) (k : ∀ e a' V, Q' e a' V → Q e a' V) : c.wp P Q a w := Code.wp_mono k h
set_option maxRecDepth 100000 in
set_option maxHeartbeats 8000000 in
theorem r4Read_any (vc vk vu vb : Value) (cols : List Col) (hr : ∀ c ∈ cols, rightB c = true) (hm : cols.length ≤ 1000) (s : List UInt8) (hs : s.length ≤ 1000000) (w : World) (hc : ColsAt w vc cols) (hb : BsAt w vb s) :
    Calls Tryz.prog 44 #[.agg #[vc, vk, vu], vb] w (GivesRead4 (rdRow cols s) w) := by
  obtain ⟨R, hR⟩ : ∃ R, R = rdRow cols s := ⟨_, rfl⟩
  rw [← hR]
  have HR := Lib.hid hR
  clear hR
  obtain ⟨Ac, cc, rfl, hcc, hmc, hrc⟩ := hc
  obtain ⟨Ab, cb, rfl, hbn, hbm, hrb⟩ := hb
  have hcI : (cols.length : Int) ≤ 1000 := by omega
  have hsI : (s.length : Int) ≤ 1000000 := by omega
  have HRC := Lib.hid hrc
  have HRB := Lib.hid hrb
  have HRT := Lib.hid hr
  have HBM := Lib.hid (And.intro hbn hbm)
  obtain ⟨i0, hi0, hz0, hz1, hz2⟩ := info_parts infoV
  have hp2 : (0 : Nat) < 4 := by omega
  clear hrc hrb hr hcc hmc hbn hbm
  go_enter Tryz.func44, Tryz.ntmps44
  go_wp2
  go_loopw [6, 7, 8] (fun a v i wr => ∃ (k m : Nat) (L : List Val), k ≤ cols.length ∧ m ≤ s.length ∧ i = .int .i64 k ∧ a = .int .i64 m ∧ (∃ A c, v = .slice A k c) ∧ Hid (rdRow (cols.take k) s = some (L, m) ∧ L.length = k) ∧ Hid (Bel (w.alloc (.cells #[.slice Ac cols.length cc, vk, vu] 26)) wr ∧ wr.ownsRow (w.heap.size + 1) 48 4 v k (vrows L))) (fun a v i _ => cols.length - (intOf i).toNat)
  case atStart => exact ⟨0, 0, [], Nat.zero_le _, Nat.zero_le _, rfl, rfl, ⟨none, 0, rfl⟩, ⟨rfl, rfl⟩, Bel.refl _, World.ownsRow_nil _ _ _ _⟩
  case round =>
    obtain ⟨k, m, L, hk, hml, rfl, rfl, ⟨A, c, rfl⟩, HL, HO⟩ := hrel
    have l0 : wr.cell? ⟨w.heap.size, 0, none⟩ = some (.slice Ac cols.length cc) := HO.out.1.c (by go_simp)
    by_cases hlt : k < cols.length
    · have hkI : (k : Int) < cols.length := by omega
      obtain ⟨co, hco⟩ : ∃ co, cols[k]? = some co := ⟨_, List.getElem?_eq_getElem hlt⟩
      obtain ⟨bc, oc, rfl, hci⟩ := HRC.out (by omega)
      obtain ⟨q0, q1, q2, q3⟩ := hci k co hco
      have hBw : Bel w wr := ((Bel.refl w).alloc _).then_ HO.out.1
      have c0 := hBw.c q0
      have c1 := hBw.c q1
      have c2 := hBw.c q2
      have c3 := hBw.c q3
      have htk : cols.take (k + 1) = cols.take k ++ [co] := by rw [List.take_add_one, hco]; rfl
      have hrco := HRT.out co (List.mem_of_getElem? hco)
      have HTK : Hid (rdRow (cols.take (k + 1)) s = match rdVal co (s.drop m) with
          | none => none
          | some (x, n) => some (L ++ [x], m + n)) := by
        show _ = _
        rw [htk, rdRow_app, HL.out.1]
        dsimp only
        rw [rdRow_one]
        cases rdVal co (s.drop m) <;> rfl
      have HBAD : Hid (rdVal co (s.drop m) = none → R = none) := fun e => by
        rw [HR.out]
        have h1 : rdRow (cols.take (k + 1) ++ cols.drop (k + 1)) s = none := by rw [rdRow_app, HTK.out, e]
        rwa [List.take_append_drop] at h1
      have hdl : (s.drop m).length = s.length - m := List.length_drop
      have HBK : Hid (∀ x n, rdVal co (s.drop m) = some (x, n) → 1 ≤ n ∧ n ≤ s.length - m) := fun x n h => by
        obtain ⟨h1, h2, -⟩ := rdVal_back hrco h
        rw [hdl] at h2
        exact ⟨h1, h2⟩
      obtain ⟨cn, ct, cz, cnl⟩ := co
      dsimp only at *
      have hmI : (m : Int) ≤ s.length := by omega
      have hbI : (s.length : Int) ≤ cb := by have := HBM.out.1; omega
      have hbJ : (cb : Int) ≤ 9223372036854775807 := by have := HBM.out.2; unfold maxLen at this; omega
      have HS : Hid (∀ V, Bel wr V → (fun V : World => Bel wr V ∧ V.cell? ⟨w.heap.size, 0, none⟩ = some (.slice (some ⟨bc, oc, none⟩) cols.length cc) ∧ (V.cell? ⟨bc, oc + k * 4, none⟩ = some (.string cn) ∧ V.cell? ⟨bc, oc + k * 4 + 1, none⟩ = some (.int .i64 ct) ∧ V.cell? ⟨bc, oc + k * 4 + 2, none⟩ = some (.int .i64 cz) ∧ V.cell? ⟨bc, oc + k * 4 + 3, none⟩ = some (.bool cnl))) V) := fun V h => ⟨h, h.c l0, h.c c0, h.c c1, h.c c2, h.c c3⟩
      have hwsz : w.heap.size < wr.heap.size := World.block_lt_of_cell? (w := wr) (a := ⟨w.heap.size, 0, none⟩) l0
      have hbcl : bc < wr.heap.size := World.block_lt_of_cell? (w := wr) (a := ⟨bc, oc + k * 4, none⟩) c0
      have hI4 : ((s.length : Int) - m).toNat = s.length - m := by omega
      have hI5 : ((cb : Int) - m).toNat = cb - m := by omega
      clear hco hci htk q0 q1 q2 q3 hBw
      cases Ab with
      | none =>
        obtain rfl : s = [] := by
          cases s with
          | nil => rfl
          | cons d s => have := HRB.out.2 (by simp); obtain ⟨_, h, -⟩ := this; cases h
        obtain rfl : m = 0 := by simpa using hml
        have hv : rdVal ⟨cn, ct, cz, cnl⟩ (List.drop 0 []) = none := rfl
        obtain rfl : R = none := HBAD.out hv
        obtain ⟨X, N, hXN⟩ : ∃ X N, ((noVal, 0) : Val × Nat) = (X, N) := ⟨_, _, rfl⟩
        have HVAL : Hid (∀ V, Bel wr V → Calls Tryz.prog 73 #[.agg #[.string cn, .int .i64 ct, .int .i64 cz, .bool cnl], .slice none 0 cb] V (GivesV X N V)) := fun V h => by
          injection hXN with e1 e2
          subst e1 e2
          exact r4v_nil V cn ct cz cnl none cb
        have HXN := Lib.hid hXN
        clear HRB hXN
        go_wp2_with fail
        refine wp_meet (Q' := fun e a' V => ∃ (g : Nat) (z4 z5 z11 z12 z13 z14 z15 z16 z17 z18 z19 z20 z21 z22 z23 z24 z25 z26 z27 z28 z29 z30 z31 z32 z33 z34 z35 z36 z37 z38 : Value), e = .normal ∧ a' = { tmps := #[.agg #[.slice (some ⟨bc, oc, none⟩) cols.length cc, vk, vu], .slice none 0 cb, .pointer (some ⟨w.heap.size, 0, none⟩), undef, z4, z5, .int .i64 0, .slice A k c, .int .i64 k, .pointer (some ⟨g, 0, none⟩), .int .i64 N, z11, z12, z13, z14, z15, z16, z17, z18, z19, z20, z21, z22, z23, z24, z25, z26, z27, z28, z29, z30, z31, z32, z33, z34, z35, z36, z37, z38, undef, undef], defers := [] } ∧ Bel wr V ∧ w.heap.size < g ∧ V.cell? ⟨g, 0, none⟩ = some (.int .i64 X.k) ∧ V.cell? ⟨g, 1, none⟩ = some (.int .i64 X.n) ∧ V.cell? ⟨g, 2, none⟩ = some (.int .u64 X.u) ∧ V.cell? ⟨g, 3, none⟩ = some (.string X.b)) ?_ ?_
        · refine wp_region_noPanic ?_
          refine wp_region_held_drew (S := (fun V : World => Bel wr V ∧ V.cell? ⟨w.heap.size, 0, none⟩ = some (.slice (some ⟨bc, oc, none⟩) cols.length cc) ∧ (V.cell? ⟨bc, oc + k * 4, none⟩ = some (.string cn) ∧ V.cell? ⟨bc, oc + k * 4 + 1, none⟩ = some (.int .i64 ct) ∧ V.cell? ⟨bc, oc + k * 4 + 2, none⟩ = some (.int .i64 cz) ∧ V.cell? ⟨bc, oc + k * 4 + 3, none⟩ = some (.bool cnl)))) (by kernel_rfl) ?_ (fun hHr1_0 => ?_)
          · (try dsimp only); (first | assumption | exact HS.out _ (Bel.refl wr).drew | exact HS.out _ hb11 | exact HS.out _ ((Bel.refl wr).drew.alloc _) | exact HS.out _ (hb11.alloc _) | exact HS.out _ ((((hb11.setCell (Nat.le_refl _) _).setCell (Nat.le_refl _) _).setCell (Nat.le_refl _) _).setCell (Nat.le_refl _) _))
          refine wpAnyH_take (i := 0) (oi := _) (v := ?vr1_1_0) rfl (by kernel_rfl) (by kernel_rfl) (by kernel_rfl) ?hqr1_1_0 (Or.inl ⟨by kernel_rfl, ?hyr1_1_0⟩) (by assumption) ?restr1_1_0
          case hqr1_1_0 => exact fun _ _ _ h => h
          case hyr1_1_0 => (intro w hSw; (try dsimp only at hSw); go_simp; try with_reducible rfl)
          try simp only [Act.put, List.getElem_toArray, List.getElem_cons_succ, List.getElem_cons_zero, List.setIfInBounds_toArray, List.set_cons_zero, List.set_cons_succ]
          refine wpAnyH_take (i := 1) (oi := _) (v := ?vr1_1_1) rfl (by kernel_rfl) (by kernel_rfl) (by kernel_rfl) ?hqr1_1_1 (Or.inl ⟨by kernel_rfl, ?hyr1_1_1⟩) (by assumption) ?restr1_1_1
          case hqr1_1_1 => exact fun _ _ _ h => h
          case hyr1_1_1 => (intro w hSw; (try dsimp only at hSw); go_simp; try with_reducible rfl)
          try simp only [Act.put, List.getElem_toArray, List.getElem_cons_succ, List.getElem_cons_zero, List.setIfInBounds_toArray, List.set_cons_zero, List.set_cons_succ]
          refine wpAnyH_take (i := 2) (oi := _) (v := ?vr1_1_2) rfl (by kernel_rfl) (by kernel_rfl) (by kernel_rfl) ?hqr1_1_2 (Or.inl ⟨by kernel_rfl, ?hyr1_1_2⟩) (by assumption) ?restr1_1_2
          case hqr1_1_2 => exact fun _ _ _ h => h
          case hyr1_1_2 => (intro w hSw; (try dsimp only at hSw); go_simp; try with_reducible rfl)
          try simp only [Act.put, List.getElem_toArray, List.getElem_cons_succ, List.getElem_cons_zero, List.setIfInBounds_toArray, List.set_cons_zero, List.set_cons_succ]
          refine wpAnyH_take (i := 3) (oi := _) (v := ?vr1_1_3) rfl (by kernel_rfl) (by kernel_rfl) (by kernel_rfl) ?hqr1_1_3 (Or.inl ⟨by kernel_rfl, ?hyr1_1_3⟩) (by assumption) ?restr1_1_3
          case hqr1_1_3 => exact fun _ _ _ h => h
          case hyr1_1_3 => (intro w hSw; (try dsimp only at hSw); go_simp; try with_reducible rfl)
          try simp only [Act.put, List.getElem_toArray, List.getElem_cons_succ, List.getElem_cons_zero, List.setIfInBounds_toArray, List.set_cons_zero, List.set_cons_succ]
          refine wpAnyH_take (i := 4) (oi := _) (v := ?vr1_1_4) rfl (by kernel_rfl) (by kernel_rfl) (by kernel_rfl) ?hqr1_1_4 (Or.inl ⟨by kernel_rfl, ?hyr1_1_4⟩) (by assumption) ?restr1_1_4
          case hqr1_1_4 => exact fun _ _ _ h => h
          case hyr1_1_4 => (intro w hSw; (try dsimp only at hSw); go_simp; try with_reducible rfl)
          try simp only [Act.put, List.getElem_toArray, List.getElem_cons_succ, List.getElem_cons_zero, List.setIfInBounds_toArray, List.set_cons_zero, List.set_cons_succ]
          refine wpAnyH_take (i := 5) (oi := _) (v := ?vr1_1_5) rfl (by kernel_rfl) (by kernel_rfl) (by kernel_rfl) ?hqr1_1_5 (Or.inl ⟨by kernel_rfl, ?hyr1_1_5⟩) (by assumption) ?restr1_1_5
          case hqr1_1_5 => exact fun _ _ _ h => h
          case hyr1_1_5 => (intro w hSw; (try dsimp only at hSw); go_simp; try with_reducible rfl)
          try simp only [Act.put, List.getElem_toArray, List.getElem_cons_succ, List.getElem_cons_zero, List.setIfInBounds_toArray, List.set_cons_zero, List.set_cons_succ]
          refine wpAnyH_take (i := 6) (oi := _) (v := ?vr1_1_6) rfl (by kernel_rfl) (by kernel_rfl) (by kernel_rfl) ?hqr1_1_6 (Or.inl ⟨by kernel_rfl, ?hyr1_1_6⟩) (by assumption) ?restr1_1_6
          case hqr1_1_6 => exact fun _ _ _ h => h
          case hyr1_1_6 => (intro w hSw; (try dsimp only at hSw); go_simp; try with_reducible rfl)
          try simp only [Act.put, List.getElem_toArray, List.getElem_cons_succ, List.getElem_cons_zero, List.setIfInBounds_toArray, List.set_cons_zero, List.set_cons_succ]
          refine wpAnyH_take (i := 7) (oi := _) (v := ?vr1_1_7) rfl (by kernel_rfl) (by kernel_rfl) (by kernel_rfl) ?hqr1_1_7 (Or.inl ⟨by kernel_rfl, ?hyr1_1_7⟩) (by assumption) ?restr1_1_7
          case hqr1_1_7 => exact fun _ _ _ h => h
          case hyr1_1_7 => (intro w hSw; (try dsimp only at hSw); go_simp; try with_reducible rfl)
          try simp only [Act.put, List.getElem_toArray, List.getElem_cons_succ, List.getElem_cons_zero, List.setIfInBounds_toArray, List.set_cons_zero, List.set_cons_succ]
          refine wpAnyH_ready (rs := [8, 12]) (by kernel_rfl) (by simp) ?_
          refine AllReadyH.cons (o := _) rfl (fun K hK => ?_) (AllReadyH.cons (o := _) rfl (fun K hK => ?_) (AllReadyH.nil))
          · go_simp
            (go_at_call 73; refine (HVAL.out _ (Bel.refl wr).drew).mono ?_; rintro e w10 ⟨rfl, hb10⟩; have hb11 := (Bel.refl wr).drew.then_ hb10)
            try (go_wp2_with fail)
            refine hK.out _ _ ?_ (fun hHr1_1 => ?_)
            · (try dsimp only); (first | assumption | exact HS.out _ (Bel.refl wr).drew | exact HS.out _ hb11 | exact HS.out _ ((Bel.refl wr).drew.alloc _) | exact HS.out _ (hb11.alloc _) | exact HS.out _ ((((hb11.setCell (Nat.le_refl _) _).setCell (Nat.le_refl _) _).setCell (Nat.le_refl _) _).setCell (Nat.le_refl _) _))
            clear hK K hHr1_0
            try simp only [Act.put, List.getElem_toArray, List.getElem_cons_succ, List.getElem_cons_zero, List.setIfInBounds_toArray, List.set_cons_zero, List.set_cons_succ]
            refine wpAnyH_take (i := 9) (oi := _) (v := ?vr1_2_9) rfl (by kernel_rfl) (by kernel_rfl) (by kernel_rfl) ?hqr1_2_9 (Or.inl ⟨by kernel_rfl, ?hyr1_2_9⟩) (by assumption) ?restr1_2_9
            case hqr1_2_9 => exact fun _ _ _ h => h
            case hyr1_2_9 => (intro w hSw; (try dsimp only at hSw); go_simp; try with_reducible rfl)
            try simp only [Act.put, List.getElem_toArray, List.getElem_cons_succ, List.getElem_cons_zero, List.setIfInBounds_toArray, List.set_cons_zero, List.set_cons_succ]
            refine wpAnyH_take (i := 10) (oi := _) (v := ?vr1_2_10) rfl (by kernel_rfl) (by kernel_rfl) (by kernel_rfl) ?hqr1_2_10 (Or.inl ⟨by kernel_rfl, ?hyr1_2_10⟩) (by assumption) ?restr1_2_10
            case hqr1_2_10 => exact fun _ _ _ h => h
            case hyr1_2_10 => (intro w hSw; (try dsimp only at hSw); go_simp; try with_reducible rfl)
            try simp only [Act.put, List.getElem_toArray, List.getElem_cons_succ, List.getElem_cons_zero, List.setIfInBounds_toArray, List.set_cons_zero, List.set_cons_succ]
            refine wpAnyH_take (i := 11) (oi := _) (v := ?vr1_2_11) rfl (by kernel_rfl) (by kernel_rfl) (by kernel_rfl) ?hqr1_2_11 (Or.inl ⟨by kernel_rfl, ?hyr1_2_11⟩) (by assumption) ?restr1_2_11
            case hqr1_2_11 => exact fun _ _ _ h => h
            case hyr1_2_11 => (intro w hSw; (try dsimp only at hSw); go_simp; try with_reducible rfl)
            try simp only [Act.put, List.getElem_toArray, List.getElem_cons_succ, List.getElem_cons_zero, List.setIfInBounds_toArray, List.set_cons_zero, List.set_cons_succ]
            refine wpAnyH_ready (rs := [12]) (by kernel_rfl) (by simp) ?_
            refine AllReadyH.cons (o := _) rfl (fun K hK => ?_) AllReadyH.nil
            go_simp
            refine hK.out _ _ ?_ (fun hHr1_2 => ?_)
            · (try dsimp only); (first | assumption | exact HS.out _ (Bel.refl wr).drew | exact HS.out _ hb11 | exact HS.out _ ((Bel.refl wr).drew.alloc _) | exact HS.out _ (hb11.alloc _) | exact HS.out _ ((((hb11.setCell (Nat.le_refl _) _).setCell (Nat.le_refl _) _).setCell (Nat.le_refl _) _).setCell (Nat.le_refl _) _))
            clear hK K hHr1_1
            try simp only [Act.put, List.getElem_toArray, List.getElem_cons_succ, List.getElem_cons_zero, List.setIfInBounds_toArray, List.set_cons_zero, List.set_cons_succ]
            refine wpAnyH_ready (rs := [13]) (by kernel_rfl) (by simp) ?_
            refine AllReadyH.cons (o := _) rfl (fun K hK => ?_) AllReadyH.nil
            go_simp
            refine hK.out _ _ ?_ (fun hHr1_3 => ?_)
            · (try dsimp only); (first | assumption | exact HS.out _ (Bel.refl wr).drew | exact HS.out _ hb11 | exact HS.out _ ((Bel.refl wr).drew.alloc _) | exact HS.out _ (hb11.alloc _) | exact HS.out _ ((((hb11.setCell (Nat.le_refl _) _).setCell (Nat.le_refl _) _).setCell (Nat.le_refl _) _).setCell (Nat.le_refl _) _))
            clear hK K hHr1_2
            try simp only [Act.put, List.getElem_toArray, List.getElem_cons_succ, List.getElem_cons_zero, List.setIfInBounds_toArray, List.set_cons_zero, List.set_cons_succ]
            refine wpAnyH_ready (rs := [14]) (by kernel_rfl) (by simp) ?_
            refine AllReadyH.cons (o := _) rfl (fun K hK => ?_) AllReadyH.nil
            go_simp
            refine hK.out _ _ ?_ (fun hHr1_4 => ?_)
            · (try dsimp only); (first | assumption | exact HS.out _ (Bel.refl wr).drew | exact HS.out _ hb11 | exact HS.out _ ((Bel.refl wr).drew.alloc _) | exact HS.out _ (hb11.alloc _) | exact HS.out _ ((((hb11.setCell (Nat.le_refl _) _).setCell (Nat.le_refl _) _).setCell (Nat.le_refl _) _).setCell (Nat.le_refl _) _))
            clear hK K hHr1_3
            try simp only [Act.put, List.getElem_toArray, List.getElem_cons_succ, List.getElem_cons_zero, List.setIfInBounds_toArray, List.set_cons_zero, List.set_cons_succ]
            refine wpAnyH_done (by kernel_rfl) ?_ _
            refine NoPanic.normal ?_
            (exact ⟨_, _, _, _, _, _, _, _, _, _, _, _, _, _, _, _, _, _, _, _, _, _, _, _, _, _, _, _, _, _, _, rfl, rfl, hb11.alloc _, Nat.lt_of_lt_of_le hwsz hb11.size, by go_simp, by go_simp, by go_simp, by go_simp⟩)
          · go_simp
            refine hK.out _ _ ?_ (fun hHr1_1 => ?_)
            · (try dsimp only); (first | assumption | exact HS.out _ (Bel.refl wr).drew | exact HS.out _ hb11 | exact HS.out _ ((Bel.refl wr).drew.alloc _) | exact HS.out _ (hb11.alloc _) | exact HS.out _ ((((hb11.setCell (Nat.le_refl _) _).setCell (Nat.le_refl _) _).setCell (Nat.le_refl _) _).setCell (Nat.le_refl _) _))
            clear hK K hHr1_0
            try simp only [Act.put, List.getElem_toArray, List.getElem_cons_succ, List.getElem_cons_zero, List.setIfInBounds_toArray, List.set_cons_zero, List.set_cons_succ]
            refine wpAnyH_ready (rs := [8]) (by kernel_rfl) (by simp) ?_
            refine AllReadyH.cons (o := _) rfl (fun K hK => ?_) AllReadyH.nil
            go_simp
            (go_at_call 73; refine (HVAL.out _ ((Bel.refl wr).drew.alloc _)).mono ?_; rintro e w10 ⟨rfl, hb10⟩; have hb11 := ((Bel.refl wr).drew.alloc _).then_ hb10; have y0 := hb10.c (p := ⟨wr.heap.size, 0, none⟩) (v := .int .i64 0) (by go_simp); have y1 := hb10.c (p := ⟨wr.heap.size, 1, none⟩) (v := .int .i64 0) (by go_simp); have y2 := hb10.c (p := ⟨wr.heap.size, 2, none⟩) (v := .int .u64 0) (by go_simp); have y3 := hb10.c (p := ⟨wr.heap.size, 3, none⟩) (v := .string ⟨#[]⟩) (by go_simp); have x0 := hb10.f (p := ⟨wr.heap.size, 0, none⟩) (v := .int .i64 0) (by go_simp) (by go_simp); have x1 := hb10.f (p := ⟨wr.heap.size, 1, none⟩) (v := .int .i64 0) (by go_simp) (by go_simp); have x2 := hb10.f (p := ⟨wr.heap.size, 2, none⟩) (v := .int .u64 0) (by go_simp) (by go_simp); have x3 := hb10.f (p := ⟨wr.heap.size, 3, none⟩) (v := .string ⟨#[]⟩) (by go_simp) (by go_simp))
            try (go_wp2_with fail)
            refine hK.out _ _ ?_ (fun hHr1_2 => ?_)
            · (try dsimp only); (first | assumption | exact HS.out _ (Bel.refl wr).drew | exact HS.out _ hb11 | exact HS.out _ ((Bel.refl wr).drew.alloc _) | exact HS.out _ (hb11.alloc _) | exact HS.out _ ((((hb11.setCell (Nat.le_refl _) _).setCell (Nat.le_refl _) _).setCell (Nat.le_refl _) _).setCell (Nat.le_refl _) _))
            clear hK K hHr1_1
            try simp only [Act.put, List.getElem_toArray, List.getElem_cons_succ, List.getElem_cons_zero, List.setIfInBounds_toArray, List.set_cons_zero, List.set_cons_succ]
            refine wpAnyH_take (i := 9) (oi := _) (v := ?vr1_3_9) rfl (by kernel_rfl) (by kernel_rfl) (by kernel_rfl) ?hqr1_3_9 (Or.inl ⟨by kernel_rfl, ?hyr1_3_9⟩) (by assumption) ?restr1_3_9
            case hqr1_3_9 => exact fun _ _ _ h => h
            case hyr1_3_9 => (intro w hSw; (try dsimp only at hSw); go_simp; try with_reducible rfl)
            try simp only [Act.put, List.getElem_toArray, List.getElem_cons_succ, List.getElem_cons_zero, List.setIfInBounds_toArray, List.set_cons_zero, List.set_cons_succ]
            refine wpAnyH_take (i := 10) (oi := _) (v := ?vr1_3_10) rfl (by kernel_rfl) (by kernel_rfl) (by kernel_rfl) ?hqr1_3_10 (Or.inl ⟨by kernel_rfl, ?hyr1_3_10⟩) (by assumption) ?restr1_3_10
            case hqr1_3_10 => exact fun _ _ _ h => h
            case hyr1_3_10 => (intro w hSw; (try dsimp only at hSw); go_simp; try with_reducible rfl)
            try simp only [Act.put, List.getElem_toArray, List.getElem_cons_succ, List.getElem_cons_zero, List.setIfInBounds_toArray, List.set_cons_zero, List.set_cons_succ]
            refine wpAnyH_take (i := 11) (oi := _) (v := ?vr1_3_11) rfl (by kernel_rfl) (by kernel_rfl) (by kernel_rfl) ?hqr1_3_11 (Or.inl ⟨by kernel_rfl, ?hyr1_3_11⟩) (by assumption) ?restr1_3_11
            case hqr1_3_11 => exact fun _ _ _ h => h
            case hyr1_3_11 => (intro w hSw; (try dsimp only at hSw); go_simp; try with_reducible rfl)
            try simp only [Act.put, List.getElem_toArray, List.getElem_cons_succ, List.getElem_cons_zero, List.setIfInBounds_toArray, List.set_cons_zero, List.set_cons_succ]
            refine wpAnyH_ready (rs := [13]) (by kernel_rfl) (by simp) ?_
            refine AllReadyH.cons (o := _) rfl (fun K hK => ?_) AllReadyH.nil
            go_simp
            refine hK.out _ _ ?_ (fun hHr1_3 => ?_)
            · (try dsimp only); (first | assumption | exact HS.out _ (Bel.refl wr).drew | exact HS.out _ hb11 | exact HS.out _ ((Bel.refl wr).drew.alloc _) | exact HS.out _ (hb11.alloc _) | exact HS.out _ ((((hb11.setCell (Nat.le_refl _) _).setCell (Nat.le_refl _) _).setCell (Nat.le_refl _) _).setCell (Nat.le_refl _) _))
            clear hK K hHr1_2
            try simp only [Act.put, List.getElem_toArray, List.getElem_cons_succ, List.getElem_cons_zero, List.setIfInBounds_toArray, List.set_cons_zero, List.set_cons_succ]
            refine wpAnyH_ready (rs := [14]) (by kernel_rfl) (by simp) ?_
            refine AllReadyH.cons (o := _) rfl (fun K hK => ?_) AllReadyH.nil
            go_simp
            refine hK.out _ _ ?_ (fun hHr1_4 => ?_)
            · (try dsimp only); (first | assumption | exact HS.out _ (Bel.refl wr).drew | exact HS.out _ hb11 | exact HS.out _ ((Bel.refl wr).drew.alloc _) | exact HS.out _ (hb11.alloc _) | exact HS.out _ ((((hb11.setCell (Nat.le_refl _) _).setCell (Nat.le_refl _) _).setCell (Nat.le_refl _) _).setCell (Nat.le_refl _) _))
            clear hK K hHr1_3
            try simp only [Act.put, List.getElem_toArray, List.getElem_cons_succ, List.getElem_cons_zero, List.setIfInBounds_toArray, List.set_cons_zero, List.set_cons_succ]
            refine wpAnyH_done (by kernel_rfl) ?_ _
            refine NoPanic.normal ?_
            (exact ⟨_, _, _, _, _, _, _, _, _, _, _, _, _, _, _, _, _, _, _, _, _, _, _, _, _, _, _, _, _, _, _, rfl, rfl, (((hb11.setCell (Nat.le_refl _) _).setCell (Nat.le_refl _) _).setCell (Nat.le_refl _) _).setCell (Nat.le_refl _) _, hwsz, by go_simp, by go_simp, by go_simp, by go_simp⟩)
        · clear HVAL HS c0 c1 c2 c3 l0
          rintro e a' V ⟨g, z4, z5, z11, z12, z13, z14, z15, z16, z17, z18, z19, z20, z21, z22, z23, z24, z25, z26, z27, z28, z29, z30, z31, z32, z33, z34, z35, z36, z37, z38, rfl, rfl, hbV, hgg, x0, x1, x2, x3⟩
          have hgV : g < V.heap.size := World.block_lt_of_cell? (w := V) (a := ⟨g, 0, none⟩) x0
          have hXN := HXN.out
          injection hXN with e1 e2
          subst e1 e2
          have HFIN := Lib.hid ((((Bel.refl w).alloc (.cells #[.slice (some ⟨bc, oc, none⟩) cols.length cc, vk, vu] 26)).then_ HO.out.1).then_ hbV)
          clear hv
          go_wp2
          go_ret2
          exact ⟨rfl, HFIN.out⟩
      | some ad =>
        by_cases hmc : cb = m
        · obtain rfl : m = s.length := by omega
          subst hmc
          have hv : rdVal ⟨cn, ct, cz, cnl⟩ (s.drop s.length) = none := by rw [List.drop_length]; rfl
          obtain rfl : R = none := HBAD.out hv
          obtain ⟨X, N, hXN⟩ : ∃ X N, ((noVal, 0) : Val × Nat) = (X, N) := ⟨_, _, rfl⟩
          have HVAL : Hid (∀ V, Bel wr V → Calls Tryz.prog 73 #[.agg #[.string cn, .int .i64 ct, .int .i64 cz, .bool cnl], .slice (some ad) 0 0] V (GivesV X N V)) := fun V h => by
            injection hXN with e1 e2
            subst e1 e2
            exact r4v_nil V cn ct cz cnl (some ad) 0
          have HXN := Lib.hid hXN
          clear HRB hXN
          go_wp2_with fail
          refine wp_meet (Q' := fun e a' V => ∃ (g : Nat) (z4 z5 z11 z12 z13 z14 z15 z16 z17 z18 z19 z20 z21 z22 z23 z24 z25 z26 z27 z28 z29 z30 z31 z32 z33 z34 z35 z36 z37 z38 : Value), e = .normal ∧ a' = { tmps := #[.agg #[.slice (some ⟨bc, oc, none⟩) cols.length cc, vk, vu], .slice (some ad) s.length s.length, .pointer (some ⟨w.heap.size, 0, none⟩), undef, z4, z5, .int .i64 s.length, .slice A k c, .int .i64 k, .pointer (some ⟨g, 0, none⟩), .int .i64 N, z11, z12, z13, z14, z15, z16, z17, z18, z19, z20, z21, z22, z23, z24, z25, z26, z27, z28, z29, z30, z31, z32, z33, z34, z35, z36, z37, z38, undef, undef], defers := [] } ∧ Bel wr V ∧ w.heap.size < g ∧ V.cell? ⟨g, 0, none⟩ = some (.int .i64 X.k) ∧ V.cell? ⟨g, 1, none⟩ = some (.int .i64 X.n) ∧ V.cell? ⟨g, 2, none⟩ = some (.int .u64 X.u) ∧ V.cell? ⟨g, 3, none⟩ = some (.string X.b)) ?_ ?_
          · refine wp_region_noPanic ?_
            refine wp_region_held_drew (S := (fun V : World => Bel wr V ∧ V.cell? ⟨w.heap.size, 0, none⟩ = some (.slice (some ⟨bc, oc, none⟩) cols.length cc) ∧ (V.cell? ⟨bc, oc + k * 4, none⟩ = some (.string cn) ∧ V.cell? ⟨bc, oc + k * 4 + 1, none⟩ = some (.int .i64 ct) ∧ V.cell? ⟨bc, oc + k * 4 + 2, none⟩ = some (.int .i64 cz) ∧ V.cell? ⟨bc, oc + k * 4 + 3, none⟩ = some (.bool cnl)))) (by kernel_rfl) ?_ (fun hHr2_0 => ?_)
            · (try dsimp only); (first | assumption | exact HS.out _ (Bel.refl wr).drew | exact HS.out _ hb11 | exact HS.out _ ((Bel.refl wr).drew.alloc _) | exact HS.out _ (hb11.alloc _) | exact HS.out _ ((((hb11.setCell (Nat.le_refl _) _).setCell (Nat.le_refl _) _).setCell (Nat.le_refl _) _).setCell (Nat.le_refl _) _))
            refine wpAnyH_take (i := 0) (oi := _) (v := ?vr2_1_0) rfl (by kernel_rfl) (by kernel_rfl) (by kernel_rfl) ?hqr2_1_0 (Or.inl ⟨by kernel_rfl, ?hyr2_1_0⟩) (by assumption) ?restr2_1_0
            case hqr2_1_0 => exact fun _ _ _ h => h
            case hyr2_1_0 => (intro w hSw; (try dsimp only at hSw); go_simp; try with_reducible rfl)
            try simp only [Act.put, List.getElem_toArray, List.getElem_cons_succ, List.getElem_cons_zero, List.setIfInBounds_toArray, List.set_cons_zero, List.set_cons_succ]
            refine wpAnyH_take (i := 1) (oi := _) (v := ?vr2_1_1) rfl (by kernel_rfl) (by kernel_rfl) (by kernel_rfl) ?hqr2_1_1 (Or.inl ⟨by kernel_rfl, ?hyr2_1_1⟩) (by assumption) ?restr2_1_1
            case hqr2_1_1 => exact fun _ _ _ h => h
            case hyr2_1_1 => (intro w hSw; (try dsimp only at hSw); go_simp; try with_reducible rfl)
            try simp only [Act.put, List.getElem_toArray, List.getElem_cons_succ, List.getElem_cons_zero, List.setIfInBounds_toArray, List.set_cons_zero, List.set_cons_succ]
            refine wpAnyH_take (i := 2) (oi := _) (v := ?vr2_1_2) rfl (by kernel_rfl) (by kernel_rfl) (by kernel_rfl) ?hqr2_1_2 (Or.inl ⟨by kernel_rfl, ?hyr2_1_2⟩) (by assumption) ?restr2_1_2
            case hqr2_1_2 => exact fun _ _ _ h => h
            case hyr2_1_2 => (intro w hSw; (try dsimp only at hSw); go_simp; try with_reducible rfl)
            try simp only [Act.put, List.getElem_toArray, List.getElem_cons_succ, List.getElem_cons_zero, List.setIfInBounds_toArray, List.set_cons_zero, List.set_cons_succ]
            refine wpAnyH_take (i := 3) (oi := _) (v := ?vr2_1_3) rfl (by kernel_rfl) (by kernel_rfl) (by kernel_rfl) ?hqr2_1_3 (Or.inl ⟨by kernel_rfl, ?hyr2_1_3⟩) (by assumption) ?restr2_1_3
            case hqr2_1_3 => exact fun _ _ _ h => h
            case hyr2_1_3 => (intro w hSw; (try dsimp only at hSw); go_simp; try with_reducible rfl)
            try simp only [Act.put, List.getElem_toArray, List.getElem_cons_succ, List.getElem_cons_zero, List.setIfInBounds_toArray, List.set_cons_zero, List.set_cons_succ]
            refine wpAnyH_take (i := 4) (oi := _) (v := ?vr2_1_4) rfl (by kernel_rfl) (by kernel_rfl) (by kernel_rfl) ?hqr2_1_4 (Or.inl ⟨by kernel_rfl, ?hyr2_1_4⟩) (by assumption) ?restr2_1_4
            case hqr2_1_4 => exact fun _ _ _ h => h
            case hyr2_1_4 => (intro w hSw; (try dsimp only at hSw); go_simp; try with_reducible rfl)
            try simp only [Act.put, List.getElem_toArray, List.getElem_cons_succ, List.getElem_cons_zero, List.setIfInBounds_toArray, List.set_cons_zero, List.set_cons_succ]
            refine wpAnyH_take (i := 5) (oi := _) (v := ?vr2_1_5) rfl (by kernel_rfl) (by kernel_rfl) (by kernel_rfl) ?hqr2_1_5 (Or.inl ⟨by kernel_rfl, ?hyr2_1_5⟩) (by assumption) ?restr2_1_5
            case hqr2_1_5 => exact fun _ _ _ h => h
            case hyr2_1_5 => (intro w hSw; (try dsimp only at hSw); go_simp; try with_reducible rfl)
            try simp only [Act.put, List.getElem_toArray, List.getElem_cons_succ, List.getElem_cons_zero, List.setIfInBounds_toArray, List.set_cons_zero, List.set_cons_succ]
            refine wpAnyH_take (i := 6) (oi := _) (v := ?vr2_1_6) rfl (by kernel_rfl) (by kernel_rfl) (by kernel_rfl) ?hqr2_1_6 (Or.inl ⟨by kernel_rfl, ?hyr2_1_6⟩) (by assumption) ?restr2_1_6
            case hqr2_1_6 => exact fun _ _ _ h => h
            case hyr2_1_6 => (intro w hSw; (try dsimp only at hSw); go_simp; try with_reducible rfl)
            try simp only [Act.put, List.getElem_toArray, List.getElem_cons_succ, List.getElem_cons_zero, List.setIfInBounds_toArray, List.set_cons_zero, List.set_cons_succ]
            refine wpAnyH_take (i := 7) (oi := _) (v := ?vr2_1_7) rfl (by kernel_rfl) (by kernel_rfl) (by kernel_rfl) ?hqr2_1_7 (Or.inl ⟨by kernel_rfl, ?hyr2_1_7⟩) (by assumption) ?restr2_1_7
            case hqr2_1_7 => exact fun _ _ _ h => h
            case hyr2_1_7 => (intro w hSw; (try dsimp only at hSw); go_simp; try with_reducible rfl)
            try simp only [Act.put, List.getElem_toArray, List.getElem_cons_succ, List.getElem_cons_zero, List.setIfInBounds_toArray, List.set_cons_zero, List.set_cons_succ]
            refine wpAnyH_ready (rs := [8, 12]) (by kernel_rfl) (by simp) ?_
            refine AllReadyH.cons (o := _) rfl (fun K hK => ?_) (AllReadyH.cons (o := _) rfl (fun K hK => ?_) (AllReadyH.nil))
            · go_simp
              (go_at_call 73; refine (HVAL.out _ (Bel.refl wr).drew).mono ?_; rintro e w10 ⟨rfl, hb10⟩; have hb11 := (Bel.refl wr).drew.then_ hb10)
              try (go_wp2_with fail)
              refine hK.out _ _ ?_ (fun hHr2_1 => ?_)
              · (try dsimp only); (first | assumption | exact HS.out _ (Bel.refl wr).drew | exact HS.out _ hb11 | exact HS.out _ ((Bel.refl wr).drew.alloc _) | exact HS.out _ (hb11.alloc _) | exact HS.out _ ((((hb11.setCell (Nat.le_refl _) _).setCell (Nat.le_refl _) _).setCell (Nat.le_refl _) _).setCell (Nat.le_refl _) _))
              clear hK K hHr2_0
              try simp only [Act.put, List.getElem_toArray, List.getElem_cons_succ, List.getElem_cons_zero, List.setIfInBounds_toArray, List.set_cons_zero, List.set_cons_succ]
              refine wpAnyH_take (i := 9) (oi := _) (v := ?vr2_2_9) rfl (by kernel_rfl) (by kernel_rfl) (by kernel_rfl) ?hqr2_2_9 (Or.inl ⟨by kernel_rfl, ?hyr2_2_9⟩) (by assumption) ?restr2_2_9
              case hqr2_2_9 => exact fun _ _ _ h => h
              case hyr2_2_9 => (intro w hSw; (try dsimp only at hSw); go_simp; try with_reducible rfl)
              try simp only [Act.put, List.getElem_toArray, List.getElem_cons_succ, List.getElem_cons_zero, List.setIfInBounds_toArray, List.set_cons_zero, List.set_cons_succ]
              refine wpAnyH_take (i := 10) (oi := _) (v := ?vr2_2_10) rfl (by kernel_rfl) (by kernel_rfl) (by kernel_rfl) ?hqr2_2_10 (Or.inl ⟨by kernel_rfl, ?hyr2_2_10⟩) (by assumption) ?restr2_2_10
              case hqr2_2_10 => exact fun _ _ _ h => h
              case hyr2_2_10 => (intro w hSw; (try dsimp only at hSw); go_simp; try with_reducible rfl)
              try simp only [Act.put, List.getElem_toArray, List.getElem_cons_succ, List.getElem_cons_zero, List.setIfInBounds_toArray, List.set_cons_zero, List.set_cons_succ]
              refine wpAnyH_take (i := 11) (oi := _) (v := ?vr2_2_11) rfl (by kernel_rfl) (by kernel_rfl) (by kernel_rfl) ?hqr2_2_11 (Or.inl ⟨by kernel_rfl, ?hyr2_2_11⟩) (by assumption) ?restr2_2_11
              case hqr2_2_11 => exact fun _ _ _ h => h
              case hyr2_2_11 => (intro w hSw; (try dsimp only at hSw); go_simp; try with_reducible rfl)
              try simp only [Act.put, List.getElem_toArray, List.getElem_cons_succ, List.getElem_cons_zero, List.setIfInBounds_toArray, List.set_cons_zero, List.set_cons_succ]
              refine wpAnyH_ready (rs := [12]) (by kernel_rfl) (by simp) ?_
              refine AllReadyH.cons (o := _) rfl (fun K hK => ?_) AllReadyH.nil
              go_simp
              refine hK.out _ _ ?_ (fun hHr2_2 => ?_)
              · (try dsimp only); (first | assumption | exact HS.out _ (Bel.refl wr).drew | exact HS.out _ hb11 | exact HS.out _ ((Bel.refl wr).drew.alloc _) | exact HS.out _ (hb11.alloc _) | exact HS.out _ ((((hb11.setCell (Nat.le_refl _) _).setCell (Nat.le_refl _) _).setCell (Nat.le_refl _) _).setCell (Nat.le_refl _) _))
              clear hK K hHr2_1
              try simp only [Act.put, List.getElem_toArray, List.getElem_cons_succ, List.getElem_cons_zero, List.setIfInBounds_toArray, List.set_cons_zero, List.set_cons_succ]
              refine wpAnyH_ready (rs := [13]) (by kernel_rfl) (by simp) ?_
              refine AllReadyH.cons (o := _) rfl (fun K hK => ?_) AllReadyH.nil
              go_simp
              refine hK.out _ _ ?_ (fun hHr2_3 => ?_)
              · (try dsimp only); (first | assumption | exact HS.out _ (Bel.refl wr).drew | exact HS.out _ hb11 | exact HS.out _ ((Bel.refl wr).drew.alloc _) | exact HS.out _ (hb11.alloc _) | exact HS.out _ ((((hb11.setCell (Nat.le_refl _) _).setCell (Nat.le_refl _) _).setCell (Nat.le_refl _) _).setCell (Nat.le_refl _) _))
              clear hK K hHr2_2
              try simp only [Act.put, List.getElem_toArray, List.getElem_cons_succ, List.getElem_cons_zero, List.setIfInBounds_toArray, List.set_cons_zero, List.set_cons_succ]
              refine wpAnyH_ready (rs := [14]) (by kernel_rfl) (by simp) ?_
              refine AllReadyH.cons (o := _) rfl (fun K hK => ?_) AllReadyH.nil
              go_simp
              refine hK.out _ _ ?_ (fun hHr2_4 => ?_)
              · (try dsimp only); (first | assumption | exact HS.out _ (Bel.refl wr).drew | exact HS.out _ hb11 | exact HS.out _ ((Bel.refl wr).drew.alloc _) | exact HS.out _ (hb11.alloc _) | exact HS.out _ ((((hb11.setCell (Nat.le_refl _) _).setCell (Nat.le_refl _) _).setCell (Nat.le_refl _) _).setCell (Nat.le_refl _) _))
              clear hK K hHr2_3
              try simp only [Act.put, List.getElem_toArray, List.getElem_cons_succ, List.getElem_cons_zero, List.setIfInBounds_toArray, List.set_cons_zero, List.set_cons_succ]
              refine wpAnyH_done (by kernel_rfl) ?_ _
              refine NoPanic.normal ?_
              (exact ⟨_, _, _, _, _, _, _, _, _, _, _, _, _, _, _, _, _, _, _, _, _, _, _, _, _, _, _, _, _, _, _, rfl, rfl, hb11.alloc _, Nat.lt_of_lt_of_le hwsz hb11.size, by go_simp, by go_simp, by go_simp, by go_simp⟩)
            · go_simp
              refine hK.out _ _ ?_ (fun hHr2_1 => ?_)
              · (try dsimp only); (first | assumption | exact HS.out _ (Bel.refl wr).drew | exact HS.out _ hb11 | exact HS.out _ ((Bel.refl wr).drew.alloc _) | exact HS.out _ (hb11.alloc _) | exact HS.out _ ((((hb11.setCell (Nat.le_refl _) _).setCell (Nat.le_refl _) _).setCell (Nat.le_refl _) _).setCell (Nat.le_refl _) _))
              clear hK K hHr2_0
              try simp only [Act.put, List.getElem_toArray, List.getElem_cons_succ, List.getElem_cons_zero, List.setIfInBounds_toArray, List.set_cons_zero, List.set_cons_succ]
              refine wpAnyH_ready (rs := [8]) (by kernel_rfl) (by simp) ?_
              refine AllReadyH.cons (o := _) rfl (fun K hK => ?_) AllReadyH.nil
              go_simp
              (go_at_call 73; refine (HVAL.out _ ((Bel.refl wr).drew.alloc _)).mono ?_; rintro e w10 ⟨rfl, hb10⟩; have hb11 := ((Bel.refl wr).drew.alloc _).then_ hb10; have y0 := hb10.c (p := ⟨wr.heap.size, 0, none⟩) (v := .int .i64 0) (by go_simp); have y1 := hb10.c (p := ⟨wr.heap.size, 1, none⟩) (v := .int .i64 0) (by go_simp); have y2 := hb10.c (p := ⟨wr.heap.size, 2, none⟩) (v := .int .u64 0) (by go_simp); have y3 := hb10.c (p := ⟨wr.heap.size, 3, none⟩) (v := .string ⟨#[]⟩) (by go_simp); have x0 := hb10.f (p := ⟨wr.heap.size, 0, none⟩) (v := .int .i64 0) (by go_simp) (by go_simp); have x1 := hb10.f (p := ⟨wr.heap.size, 1, none⟩) (v := .int .i64 0) (by go_simp) (by go_simp); have x2 := hb10.f (p := ⟨wr.heap.size, 2, none⟩) (v := .int .u64 0) (by go_simp) (by go_simp); have x3 := hb10.f (p := ⟨wr.heap.size, 3, none⟩) (v := .string ⟨#[]⟩) (by go_simp) (by go_simp))
              try (go_wp2_with fail)
              refine hK.out _ _ ?_ (fun hHr2_2 => ?_)
              · (try dsimp only); (first | assumption | exact HS.out _ (Bel.refl wr).drew | exact HS.out _ hb11 | exact HS.out _ ((Bel.refl wr).drew.alloc _) | exact HS.out _ (hb11.alloc _) | exact HS.out _ ((((hb11.setCell (Nat.le_refl _) _).setCell (Nat.le_refl _) _).setCell (Nat.le_refl _) _).setCell (Nat.le_refl _) _))
              clear hK K hHr2_1
              try simp only [Act.put, List.getElem_toArray, List.getElem_cons_succ, List.getElem_cons_zero, List.setIfInBounds_toArray, List.set_cons_zero, List.set_cons_succ]
              refine wpAnyH_take (i := 9) (oi := _) (v := ?vr2_3_9) rfl (by kernel_rfl) (by kernel_rfl) (by kernel_rfl) ?hqr2_3_9 (Or.inl ⟨by kernel_rfl, ?hyr2_3_9⟩) (by assumption) ?restr2_3_9
              case hqr2_3_9 => exact fun _ _ _ h => h
              case hyr2_3_9 => (intro w hSw; (try dsimp only at hSw); go_simp; try with_reducible rfl)
              try simp only [Act.put, List.getElem_toArray, List.getElem_cons_succ, List.getElem_cons_zero, List.setIfInBounds_toArray, List.set_cons_zero, List.set_cons_succ]
              refine wpAnyH_take (i := 10) (oi := _) (v := ?vr2_3_10) rfl (by kernel_rfl) (by kernel_rfl) (by kernel_rfl) ?hqr2_3_10 (Or.inl ⟨by kernel_rfl, ?hyr2_3_10⟩) (by assumption) ?restr2_3_10
              case hqr2_3_10 => exact fun _ _ _ h => h
              case hyr2_3_10 => (intro w hSw; (try dsimp only at hSw); go_simp; try with_reducible rfl)
              try simp only [Act.put, List.getElem_toArray, List.getElem_cons_succ, List.getElem_cons_zero, List.setIfInBounds_toArray, List.set_cons_zero, List.set_cons_succ]
              refine wpAnyH_take (i := 11) (oi := _) (v := ?vr2_3_11) rfl (by kernel_rfl) (by kernel_rfl) (by kernel_rfl) ?hqr2_3_11 (Or.inl ⟨by kernel_rfl, ?hyr2_3_11⟩) (by assumption) ?restr2_3_11
              case hqr2_3_11 => exact fun _ _ _ h => h
              case hyr2_3_11 => (intro w hSw; (try dsimp only at hSw); go_simp; try with_reducible rfl)
              try simp only [Act.put, List.getElem_toArray, List.getElem_cons_succ, List.getElem_cons_zero, List.setIfInBounds_toArray, List.set_cons_zero, List.set_cons_succ]
              refine wpAnyH_ready (rs := [13]) (by kernel_rfl) (by simp) ?_
              refine AllReadyH.cons (o := _) rfl (fun K hK => ?_) AllReadyH.nil
              go_simp
              refine hK.out _ _ ?_ (fun hHr2_3 => ?_)
              · (try dsimp only); (first | assumption | exact HS.out _ (Bel.refl wr).drew | exact HS.out _ hb11 | exact HS.out _ ((Bel.refl wr).drew.alloc _) | exact HS.out _ (hb11.alloc _) | exact HS.out _ ((((hb11.setCell (Nat.le_refl _) _).setCell (Nat.le_refl _) _).setCell (Nat.le_refl _) _).setCell (Nat.le_refl _) _))
              clear hK K hHr2_2
              try simp only [Act.put, List.getElem_toArray, List.getElem_cons_succ, List.getElem_cons_zero, List.setIfInBounds_toArray, List.set_cons_zero, List.set_cons_succ]
              refine wpAnyH_ready (rs := [14]) (by kernel_rfl) (by simp) ?_
              refine AllReadyH.cons (o := _) rfl (fun K hK => ?_) AllReadyH.nil
              go_simp
              refine hK.out _ _ ?_ (fun hHr2_4 => ?_)
              · (try dsimp only); (first | assumption | exact HS.out _ (Bel.refl wr).drew | exact HS.out _ hb11 | exact HS.out _ ((Bel.refl wr).drew.alloc _) | exact HS.out _ (hb11.alloc _) | exact HS.out _ ((((hb11.setCell (Nat.le_refl _) _).setCell (Nat.le_refl _) _).setCell (Nat.le_refl _) _).setCell (Nat.le_refl _) _))
              clear hK K hHr2_3
              try simp only [Act.put, List.getElem_toArray, List.getElem_cons_succ, List.getElem_cons_zero, List.setIfInBounds_toArray, List.set_cons_zero, List.set_cons_succ]
              refine wpAnyH_done (by kernel_rfl) ?_ _
              refine NoPanic.normal ?_
              (exact ⟨_, _, _, _, _, _, _, _, _, _, _, _, _, _, _, _, _, _, _, _, _, _, _, _, _, _, _, _, _, _, _, rfl, rfl, (((hb11.setCell (Nat.le_refl _) _).setCell (Nat.le_refl _) _).setCell (Nat.le_refl _) _).setCell (Nat.le_refl _) _, hwsz, by go_simp, by go_simp, by go_simp, by go_simp⟩)
          · clear HVAL HS c0 c1 c2 c3 l0
            rintro e a' V ⟨g, z4, z5, z11, z12, z13, z14, z15, z16, z17, z18, z19, z20, z21, z22, z23, z24, z25, z26, z27, z28, z29, z30, z31, z32, z33, z34, z35, z36, z37, z38, rfl, rfl, hbV, hgg, x0, x1, x2, x3⟩
            have hgV : g < V.heap.size := World.block_lt_of_cell? (w := V) (a := ⟨g, 0, none⟩) x0
            have hXN := HXN.out
            injection hXN with e1 e2
            subst e1 e2
            have HFIN := Lib.hid ((((Bel.refl w).alloc (.cells #[.slice (some ⟨bc, oc, none⟩) cols.length cc, vk, vu] 26)).then_ HO.out.1).then_ hbV)
            clear hv
            go_wp2
            go_ret2
            exact ⟨rfl, HFIN.out⟩
        · have hcut := HRB.out.cut (k := m) hml HBM.out.1
          rw [Nat.mul_one, ← List.map_drop, if_neg hmc, ← hdl] at hcut
          obtain ⟨X, N, hXN⟩ : ∃ X N, valR (rdVal ⟨cn, ct, cz, cnl⟩ (s.drop m)) = (X, N) := ⟨_, _, rfl⟩
          have HVAL : Hid (∀ V, Bel wr V → Calls Tryz.prog 73 #[.agg #[.string cn, .int .i64 ct, .int .i64 cz, .bool cnl], .slice (some (ad.add m)) (s.length - m) (cb - m)] V (GivesV X N V)) := fun V h => by
            have hbV : BsAt V (.slice (some (ad.add m)) (s.length - m) (cb - m)) (s.drop m) := by
              rw [← hdl]
              refine ⟨_, _, rfl, by have := HBM.out.1; omega, by have := HBM.out.2; omega, hcut.belH ((((Bel.refl w).alloc _).then_ HO.out.1).then_ h)⟩
            have := r4value_any ⟨cn, ct, cz, cnl⟩ hrco _ (s.drop m) (by omega) V hbV
            rw [hXN] at this
            exact this
          clear hcut
          have HXN := Lib.hid hXN
          clear HRB hXN
          go_wp2_with fail
          refine wp_meet (Q' := fun e a' V => ∃ (g : Nat) (z4 z5 z11 z12 z13 z14 z15 z16 z17 z18 z19 z20 z21 z22 z23 z24 z25 z26 z27 z28 z29 z30 z31 z32 z33 z34 z35 z36 z37 z38 : Value), e = .normal ∧ a' = { tmps := #[.agg #[.slice (some ⟨bc, oc, none⟩) cols.length cc, vk, vu], .slice (some ad) s.length cb, .pointer (some ⟨w.heap.size, 0, none⟩), undef, z4, z5, .int .i64 m, .slice A k c, .int .i64 k, .pointer (some ⟨g, 0, none⟩), .int .i64 N, z11, z12, z13, z14, z15, z16, z17, z18, z19, z20, z21, z22, z23, z24, z25, z26, z27, z28, z29, z30, z31, z32, z33, z34, z35, z36, z37, z38, undef, undef], defers := [] } ∧ Bel wr V ∧ w.heap.size < g ∧ V.cell? ⟨g, 0, none⟩ = some (.int .i64 X.k) ∧ V.cell? ⟨g, 1, none⟩ = some (.int .i64 X.n) ∧ V.cell? ⟨g, 2, none⟩ = some (.int .u64 X.u) ∧ V.cell? ⟨g, 3, none⟩ = some (.string X.b)) ?_ ?_
          · refine wp_region_noPanic ?_
            refine wp_region_held_drew (S := (fun V : World => Bel wr V ∧ V.cell? ⟨w.heap.size, 0, none⟩ = some (.slice (some ⟨bc, oc, none⟩) cols.length cc) ∧ (V.cell? ⟨bc, oc + k * 4, none⟩ = some (.string cn) ∧ V.cell? ⟨bc, oc + k * 4 + 1, none⟩ = some (.int .i64 ct) ∧ V.cell? ⟨bc, oc + k * 4 + 2, none⟩ = some (.int .i64 cz) ∧ V.cell? ⟨bc, oc + k * 4 + 3, none⟩ = some (.bool cnl)))) (by kernel_rfl) ?_ (fun hHr3_0 => ?_)
            · (try dsimp only); (first | assumption | exact HS.out _ (Bel.refl wr).drew | exact HS.out _ hb11 | exact HS.out _ ((Bel.refl wr).drew.alloc _) | exact HS.out _ (hb11.alloc _) | exact HS.out _ ((((hb11.setCell (Nat.le_refl _) _).setCell (Nat.le_refl _) _).setCell (Nat.le_refl _) _).setCell (Nat.le_refl _) _))
            refine wpAnyH_take (i := 0) (oi := _) (v := ?vr3_1_0) rfl (by kernel_rfl) (by kernel_rfl) (by kernel_rfl) ?hqr3_1_0 (Or.inl ⟨by kernel_rfl, ?hyr3_1_0⟩) (by assumption) ?restr3_1_0
            case hqr3_1_0 => exact fun _ _ _ h => h
            case hyr3_1_0 => (intro w hSw; (try dsimp only at hSw); go_simp; try with_reducible rfl)
            try simp only [Act.put, List.getElem_toArray, List.getElem_cons_succ, List.getElem_cons_zero, List.setIfInBounds_toArray, List.set_cons_zero, List.set_cons_succ]
            refine wpAnyH_take (i := 1) (oi := _) (v := ?vr3_1_1) rfl (by kernel_rfl) (by kernel_rfl) (by kernel_rfl) ?hqr3_1_1 (Or.inl ⟨by kernel_rfl, ?hyr3_1_1⟩) (by assumption) ?restr3_1_1
            case hqr3_1_1 => exact fun _ _ _ h => h
            case hyr3_1_1 => (intro w hSw; (try dsimp only at hSw); go_simp; try with_reducible rfl)
            try simp only [Act.put, List.getElem_toArray, List.getElem_cons_succ, List.getElem_cons_zero, List.setIfInBounds_toArray, List.set_cons_zero, List.set_cons_succ]
            refine wpAnyH_take (i := 2) (oi := _) (v := ?vr3_1_2) rfl (by kernel_rfl) (by kernel_rfl) (by kernel_rfl) ?hqr3_1_2 (Or.inl ⟨by kernel_rfl, ?hyr3_1_2⟩) (by assumption) ?restr3_1_2
            case hqr3_1_2 => exact fun _ _ _ h => h
            case hyr3_1_2 => (intro w hSw; (try dsimp only at hSw); go_simp; try with_reducible rfl)
            try simp only [Act.put, List.getElem_toArray, List.getElem_cons_succ, List.getElem_cons_zero, List.setIfInBounds_toArray, List.set_cons_zero, List.set_cons_succ]
            refine wpAnyH_take (i := 3) (oi := _) (v := ?vr3_1_3) rfl (by kernel_rfl) (by kernel_rfl) (by kernel_rfl) ?hqr3_1_3 (Or.inl ⟨by kernel_rfl, ?hyr3_1_3⟩) (by assumption) ?restr3_1_3
            case hqr3_1_3 => exact fun _ _ _ h => h
            case hyr3_1_3 => (intro w hSw; (try dsimp only at hSw); go_simp; try with_reducible rfl)
            try simp only [Act.put, List.getElem_toArray, List.getElem_cons_succ, List.getElem_cons_zero, List.setIfInBounds_toArray, List.set_cons_zero, List.set_cons_succ]
            refine wpAnyH_take (i := 4) (oi := _) (v := ?vr3_1_4) rfl (by kernel_rfl) (by kernel_rfl) (by kernel_rfl) ?hqr3_1_4 (Or.inl ⟨by kernel_rfl, ?hyr3_1_4⟩) (by assumption) ?restr3_1_4
            case hqr3_1_4 => exact fun _ _ _ h => h
            case hyr3_1_4 => (intro w hSw; (try dsimp only at hSw); go_simp; try with_reducible rfl)
            try simp only [Act.put, List.getElem_toArray, List.getElem_cons_succ, List.getElem_cons_zero, List.setIfInBounds_toArray, List.set_cons_zero, List.set_cons_succ]
            refine wpAnyH_take (i := 5) (oi := _) (v := ?vr3_1_5) rfl (by kernel_rfl) (by kernel_rfl) (by kernel_rfl) ?hqr3_1_5 (Or.inl ⟨by kernel_rfl, ?hyr3_1_5⟩) (by assumption) ?restr3_1_5
            case hqr3_1_5 => exact fun _ _ _ h => h
            case hyr3_1_5 => (intro w hSw; (try dsimp only at hSw); go_simp; try with_reducible rfl)
            try simp only [Act.put, List.getElem_toArray, List.getElem_cons_succ, List.getElem_cons_zero, List.setIfInBounds_toArray, List.set_cons_zero, List.set_cons_succ]
            refine wpAnyH_take (i := 6) (oi := _) (v := ?vr3_1_6) rfl (by kernel_rfl) (by kernel_rfl) (by kernel_rfl) ?hqr3_1_6 (Or.inl ⟨by kernel_rfl, ?hyr3_1_6⟩) (by assumption) ?restr3_1_6
            case hqr3_1_6 => exact fun _ _ _ h => h
            case hyr3_1_6 => (intro w hSw; (try dsimp only at hSw); go_simp; try with_reducible rfl)
            try simp only [Act.put, List.getElem_toArray, List.getElem_cons_succ, List.getElem_cons_zero, List.setIfInBounds_toArray, List.set_cons_zero, List.set_cons_succ]
            refine wpAnyH_take (i := 7) (oi := _) (v := ?vr3_1_7) rfl (by kernel_rfl) (by kernel_rfl) (by kernel_rfl) ?hqr3_1_7 (Or.inl ⟨by kernel_rfl, ?hyr3_1_7⟩) (by assumption) ?restr3_1_7
            case hqr3_1_7 => exact fun _ _ _ h => h
            case hyr3_1_7 => (intro w hSw; (try dsimp only at hSw); go_simp; try with_reducible rfl)
            try simp only [Act.put, List.getElem_toArray, List.getElem_cons_succ, List.getElem_cons_zero, List.setIfInBounds_toArray, List.set_cons_zero, List.set_cons_succ]
            refine wpAnyH_ready (rs := [8, 12]) (by kernel_rfl) (by simp) ?_
            refine AllReadyH.cons (o := _) rfl (fun K hK => ?_) (AllReadyH.cons (o := _) rfl (fun K hK => ?_) (AllReadyH.nil))
            · go_simp
              (go_at_call 73; refine (HVAL.out _ (Bel.refl wr).drew).mono ?_; rintro e w10 ⟨rfl, hb10⟩; have hb11 := (Bel.refl wr).drew.then_ hb10)
              try (go_wp2_with fail)
              refine hK.out _ _ ?_ (fun hHr3_1 => ?_)
              · (try dsimp only); (first | assumption | exact HS.out _ (Bel.refl wr).drew | exact HS.out _ hb11 | exact HS.out _ ((Bel.refl wr).drew.alloc _) | exact HS.out _ (hb11.alloc _) | exact HS.out _ ((((hb11.setCell (Nat.le_refl _) _).setCell (Nat.le_refl _) _).setCell (Nat.le_refl _) _).setCell (Nat.le_refl _) _))
              clear hK K hHr3_0
              try simp only [Act.put, List.getElem_toArray, List.getElem_cons_succ, List.getElem_cons_zero, List.setIfInBounds_toArray, List.set_cons_zero, List.set_cons_succ]
              refine wpAnyH_take (i := 9) (oi := _) (v := ?vr3_2_9) rfl (by kernel_rfl) (by kernel_rfl) (by kernel_rfl) ?hqr3_2_9 (Or.inl ⟨by kernel_rfl, ?hyr3_2_9⟩) (by assumption) ?restr3_2_9
              case hqr3_2_9 => exact fun _ _ _ h => h
              case hyr3_2_9 => (intro w hSw; (try dsimp only at hSw); go_simp; try with_reducible rfl)
              try simp only [Act.put, List.getElem_toArray, List.getElem_cons_succ, List.getElem_cons_zero, List.setIfInBounds_toArray, List.set_cons_zero, List.set_cons_succ]
              refine wpAnyH_take (i := 10) (oi := _) (v := ?vr3_2_10) rfl (by kernel_rfl) (by kernel_rfl) (by kernel_rfl) ?hqr3_2_10 (Or.inl ⟨by kernel_rfl, ?hyr3_2_10⟩) (by assumption) ?restr3_2_10
              case hqr3_2_10 => exact fun _ _ _ h => h
              case hyr3_2_10 => (intro w hSw; (try dsimp only at hSw); go_simp; try with_reducible rfl)
              try simp only [Act.put, List.getElem_toArray, List.getElem_cons_succ, List.getElem_cons_zero, List.setIfInBounds_toArray, List.set_cons_zero, List.set_cons_succ]
              refine wpAnyH_take (i := 11) (oi := _) (v := ?vr3_2_11) rfl (by kernel_rfl) (by kernel_rfl) (by kernel_rfl) ?hqr3_2_11 (Or.inl ⟨by kernel_rfl, ?hyr3_2_11⟩) (by assumption) ?restr3_2_11
              case hqr3_2_11 => exact fun _ _ _ h => h
              case hyr3_2_11 => (intro w hSw; (try dsimp only at hSw); go_simp; try with_reducible rfl)
              try simp only [Act.put, List.getElem_toArray, List.getElem_cons_succ, List.getElem_cons_zero, List.setIfInBounds_toArray, List.set_cons_zero, List.set_cons_succ]
              refine wpAnyH_ready (rs := [12]) (by kernel_rfl) (by simp) ?_
              refine AllReadyH.cons (o := _) rfl (fun K hK => ?_) AllReadyH.nil
              go_simp
              refine hK.out _ _ ?_ (fun hHr3_2 => ?_)
              · (try dsimp only); (first | assumption | exact HS.out _ (Bel.refl wr).drew | exact HS.out _ hb11 | exact HS.out _ ((Bel.refl wr).drew.alloc _) | exact HS.out _ (hb11.alloc _) | exact HS.out _ ((((hb11.setCell (Nat.le_refl _) _).setCell (Nat.le_refl _) _).setCell (Nat.le_refl _) _).setCell (Nat.le_refl _) _))
              clear hK K hHr3_1
              try simp only [Act.put, List.getElem_toArray, List.getElem_cons_succ, List.getElem_cons_zero, List.setIfInBounds_toArray, List.set_cons_zero, List.set_cons_succ]
              refine wpAnyH_ready (rs := [13]) (by kernel_rfl) (by simp) ?_
              refine AllReadyH.cons (o := _) rfl (fun K hK => ?_) AllReadyH.nil
              go_simp
              refine hK.out _ _ ?_ (fun hHr3_3 => ?_)
              · (try dsimp only); (first | assumption | exact HS.out _ (Bel.refl wr).drew | exact HS.out _ hb11 | exact HS.out _ ((Bel.refl wr).drew.alloc _) | exact HS.out _ (hb11.alloc _) | exact HS.out _ ((((hb11.setCell (Nat.le_refl _) _).setCell (Nat.le_refl _) _).setCell (Nat.le_refl _) _).setCell (Nat.le_refl _) _))
              clear hK K hHr3_2
              try simp only [Act.put, List.getElem_toArray, List.getElem_cons_succ, List.getElem_cons_zero, List.setIfInBounds_toArray, List.set_cons_zero, List.set_cons_succ]
              refine wpAnyH_ready (rs := [14]) (by kernel_rfl) (by simp) ?_
              refine AllReadyH.cons (o := _) rfl (fun K hK => ?_) AllReadyH.nil
              go_simp
              refine hK.out _ _ ?_ (fun hHr3_4 => ?_)
              · (try dsimp only); (first | assumption | exact HS.out _ (Bel.refl wr).drew | exact HS.out _ hb11 | exact HS.out _ ((Bel.refl wr).drew.alloc _) | exact HS.out _ (hb11.alloc _) | exact HS.out _ ((((hb11.setCell (Nat.le_refl _) _).setCell (Nat.le_refl _) _).setCell (Nat.le_refl _) _).setCell (Nat.le_refl _) _))
              clear hK K hHr3_3
              try simp only [Act.put, List.getElem_toArray, List.getElem_cons_succ, List.getElem_cons_zero, List.setIfInBounds_toArray, List.set_cons_zero, List.set_cons_succ]
              refine wpAnyH_done (by kernel_rfl) ?_ _
              refine NoPanic.normal ?_
              (exact ⟨_, _, _, _, _, _, _, _, _, _, _, _, _, _, _, _, _, _, _, _, _, _, _, _, _, _, _, _, _, _, _, rfl, rfl, hb11.alloc _, Nat.lt_of_lt_of_le hwsz hb11.size, by go_simp, by go_simp, by go_simp, by go_simp⟩)
            · go_simp
              refine hK.out _ _ ?_ (fun hHr3_1 => ?_)
              · (try dsimp only); (first | assumption | exact HS.out _ (Bel.refl wr).drew | exact HS.out _ hb11 | exact HS.out _ ((Bel.refl wr).drew.alloc _) | exact HS.out _ (hb11.alloc _) | exact HS.out _ ((((hb11.setCell (Nat.le_refl _) _).setCell (Nat.le_refl _) _).setCell (Nat.le_refl _) _).setCell (Nat.le_refl _) _))
              clear hK K hHr3_0
              try simp only [Act.put, List.getElem_toArray, List.getElem_cons_succ, List.getElem_cons_zero, List.setIfInBounds_toArray, List.set_cons_zero, List.set_cons_succ]
              refine wpAnyH_ready (rs := [8]) (by kernel_rfl) (by simp) ?_
              refine AllReadyH.cons (o := _) rfl (fun K hK => ?_) AllReadyH.nil
              go_simp
              (go_at_call 73; refine (HVAL.out _ ((Bel.refl wr).drew.alloc _)).mono ?_; rintro e w10 ⟨rfl, hb10⟩; have hb11 := ((Bel.refl wr).drew.alloc _).then_ hb10; have y0 := hb10.c (p := ⟨wr.heap.size, 0, none⟩) (v := .int .i64 0) (by go_simp); have y1 := hb10.c (p := ⟨wr.heap.size, 1, none⟩) (v := .int .i64 0) (by go_simp); have y2 := hb10.c (p := ⟨wr.heap.size, 2, none⟩) (v := .int .u64 0) (by go_simp); have y3 := hb10.c (p := ⟨wr.heap.size, 3, none⟩) (v := .string ⟨#[]⟩) (by go_simp); have x0 := hb10.f (p := ⟨wr.heap.size, 0, none⟩) (v := .int .i64 0) (by go_simp) (by go_simp); have x1 := hb10.f (p := ⟨wr.heap.size, 1, none⟩) (v := .int .i64 0) (by go_simp) (by go_simp); have x2 := hb10.f (p := ⟨wr.heap.size, 2, none⟩) (v := .int .u64 0) (by go_simp) (by go_simp); have x3 := hb10.f (p := ⟨wr.heap.size, 3, none⟩) (v := .string ⟨#[]⟩) (by go_simp) (by go_simp))
              try (go_wp2_with fail)
              refine hK.out _ _ ?_ (fun hHr3_2 => ?_)
              · (try dsimp only); (first | assumption | exact HS.out _ (Bel.refl wr).drew | exact HS.out _ hb11 | exact HS.out _ ((Bel.refl wr).drew.alloc _) | exact HS.out _ (hb11.alloc _) | exact HS.out _ ((((hb11.setCell (Nat.le_refl _) _).setCell (Nat.le_refl _) _).setCell (Nat.le_refl _) _).setCell (Nat.le_refl _) _))
              clear hK K hHr3_1
              try simp only [Act.put, List.getElem_toArray, List.getElem_cons_succ, List.getElem_cons_zero, List.setIfInBounds_toArray, List.set_cons_zero, List.set_cons_succ]
              refine wpAnyH_take (i := 9) (oi := _) (v := ?vr3_3_9) rfl (by kernel_rfl) (by kernel_rfl) (by kernel_rfl) ?hqr3_3_9 (Or.inl ⟨by kernel_rfl, ?hyr3_3_9⟩) (by assumption) ?restr3_3_9
              case hqr3_3_9 => exact fun _ _ _ h => h
              case hyr3_3_9 => (intro w hSw; (try dsimp only at hSw); go_simp; try with_reducible rfl)
              try simp only [Act.put, List.getElem_toArray, List.getElem_cons_succ, List.getElem_cons_zero, List.setIfInBounds_toArray, List.set_cons_zero, List.set_cons_succ]
              refine wpAnyH_take (i := 10) (oi := _) (v := ?vr3_3_10) rfl (by kernel_rfl) (by kernel_rfl) (by kernel_rfl) ?hqr3_3_10 (Or.inl ⟨by kernel_rfl, ?hyr3_3_10⟩) (by assumption) ?restr3_3_10
              case hqr3_3_10 => exact fun _ _ _ h => h
              case hyr3_3_10 => (intro w hSw; (try dsimp only at hSw); go_simp; try with_reducible rfl)
              try simp only [Act.put, List.getElem_toArray, List.getElem_cons_succ, List.getElem_cons_zero, List.setIfInBounds_toArray, List.set_cons_zero, List.set_cons_succ]
              refine wpAnyH_take (i := 11) (oi := _) (v := ?vr3_3_11) rfl (by kernel_rfl) (by kernel_rfl) (by kernel_rfl) ?hqr3_3_11 (Or.inl ⟨by kernel_rfl, ?hyr3_3_11⟩) (by assumption) ?restr3_3_11
              case hqr3_3_11 => exact fun _ _ _ h => h
              case hyr3_3_11 => (intro w hSw; (try dsimp only at hSw); go_simp; try with_reducible rfl)
              try simp only [Act.put, List.getElem_toArray, List.getElem_cons_succ, List.getElem_cons_zero, List.setIfInBounds_toArray, List.set_cons_zero, List.set_cons_succ]
              refine wpAnyH_ready (rs := [13]) (by kernel_rfl) (by simp) ?_
              refine AllReadyH.cons (o := _) rfl (fun K hK => ?_) AllReadyH.nil
              go_simp
              refine hK.out _ _ ?_ (fun hHr3_3 => ?_)
              · (try dsimp only); (first | assumption | exact HS.out _ (Bel.refl wr).drew | exact HS.out _ hb11 | exact HS.out _ ((Bel.refl wr).drew.alloc _) | exact HS.out _ (hb11.alloc _) | exact HS.out _ ((((hb11.setCell (Nat.le_refl _) _).setCell (Nat.le_refl _) _).setCell (Nat.le_refl _) _).setCell (Nat.le_refl _) _))
              clear hK K hHr3_2
              try simp only [Act.put, List.getElem_toArray, List.getElem_cons_succ, List.getElem_cons_zero, List.setIfInBounds_toArray, List.set_cons_zero, List.set_cons_succ]
              refine wpAnyH_ready (rs := [14]) (by kernel_rfl) (by simp) ?_
              refine AllReadyH.cons (o := _) rfl (fun K hK => ?_) AllReadyH.nil
              go_simp
              refine hK.out _ _ ?_ (fun hHr3_4 => ?_)
              · (try dsimp only); (first | assumption | exact HS.out _ (Bel.refl wr).drew | exact HS.out _ hb11 | exact HS.out _ ((Bel.refl wr).drew.alloc _) | exact HS.out _ (hb11.alloc _) | exact HS.out _ ((((hb11.setCell (Nat.le_refl _) _).setCell (Nat.le_refl _) _).setCell (Nat.le_refl _) _).setCell (Nat.le_refl _) _))
              clear hK K hHr3_3
              try simp only [Act.put, List.getElem_toArray, List.getElem_cons_succ, List.getElem_cons_zero, List.setIfInBounds_toArray, List.set_cons_zero, List.set_cons_succ]
              refine wpAnyH_done (by kernel_rfl) ?_ _
              refine NoPanic.normal ?_
              (exact ⟨_, _, _, _, _, _, _, _, _, _, _, _, _, _, _, _, _, _, _, _, _, _, _, _, _, _, _, _, _, _, _, rfl, rfl, (((hb11.setCell (Nat.le_refl _) _).setCell (Nat.le_refl _) _).setCell (Nat.le_refl _) _).setCell (Nat.le_refl _) _, hwsz, by go_simp, by go_simp, by go_simp, by go_simp⟩)
          · clear HVAL HS c0 c1 c2 c3 l0
            rintro e a' V ⟨g, z4, z5, z11, z12, z13, z14, z15, z16, z17, z18, z19, z20, z21, z22, z23, z24, z25, z26, z27, z28, z29, z30, z31, z32, z33, z34, z35, z36, z37, z38, rfl, rfl, hbV, hgg, x0, x1, x2, x3⟩
            have hgV : g < V.heap.size := World.block_lt_of_cell? (w := V) (a := ⟨g, 0, none⟩) x0
            cases hv : rdVal ⟨cn, ct, cz, cnl⟩ (s.drop m) with
            | none =>
              have hXN := HXN.out
              rw [hv] at hXN
              have hXN : (noVal, 0) = (X, N) := hXN
              injection hXN with e1 e2
              subst e1 e2
              obtain rfl : R = none := HBAD.out hv
              have HFIN := Lib.hid ((((Bel.refl w).alloc (.cells #[.slice (some ⟨bc, oc, none⟩) cols.length cc, vk, vu] 26)).then_ HO.out.1).then_ hbV)
              clear hv
              go_wp2
              go_ret2
              exact ⟨rfl, HFIN.out⟩
            | some p =>
              obtain ⟨x, n⟩ := p
              have hXN := HXN.out
              rw [hv] at hXN
              have hXN : (x, n) = (X, N) := hXN
              injection hXN with e1 e2
              subst e1 e2
              obtain ⟨hn1, hn2⟩ := HBK.out x n hv
              have HNX : Hid (rdRow (cols.take (k + 1)) s = some (L ++ [x], m + n) ∧ (L ++ [x]).length = k + 1) := by
                refine ⟨?_, by rw [List.length_append, HL.out.2]; rfl⟩
                rw [HTK.out, hv]
              have hn0 : ((n : Int) == 0) = false := by rw [beq_eq_false_iff_ne]; omega
              have hnm : m + n ≤ s.length := by omega
              have hwr : IntKind.i64.wrap ((m : Int) + n) = ((m + n : Nat) : Int) := by
                simp only [IntKind.wrap, IntKind.bits, IntKind.signed]
                simp
                omega
              have hal : Bel V (V.alloc (.cells #[.int .i64 x.k, .int .i64 x.n, .int .u64 x.u, .string x.b] 48)) := (Bel.refl _).alloc _
              have HOW := Lib.hid (ownsRow_bel (ownsRow_bel HO.out.2 hbV) hal)
              have HX1 : Hid (Reads (V.alloc (.cells #[.int .i64 x.k, .int .i64 x.n, .int .u64 x.u, .string x.b] 48)) (V.heap.size + 1) 4 (some ⟨V.heap.size, 0, none⟩) 1 [.int .i64 x.k, .int .i64 x.n, .int .u64 x.u, .string x.b]) := reads4 _ _ _ _ _ _
              have HBA := Lib.hid ((HO.out.1.then_ hbV).then_ hal)
              have HS1 : Hid (w.heap.size + 1 ≤ (V.alloc (.cells #[.int .i64 x.k, .int .i64 x.n, .int .u64 x.u, .string x.b] 48)).heap.size) := by show _ ≤ _; simp; omega
              have hon : ∀ u ∈ ([.int .i64 x.k, .int .i64 x.n, .int .u64 x.u, .string x.b] : List Value), u.oneCell' = true := fun u hu => by
                simp at hu
                rcases hu with rfl | rfl | rfl | rfl <;> rfl
              have HVA : Hid (vrows (L ++ [x]) = vrows L ++ [.int .i64 x.k, .int .i64 x.n, .int .u64 x.u, .string x.b]) := vrows_append _ _
              have h63 : k + 1 ≤ maxLen := by unfold maxLen; omega
              have hby : (k + 1) * 40 ≤ 140737488355328 := by omega
              have HNM := Lib.hid hnm
              clear hal hv hn1 hn2 hbV hnm
              go_wp2_with (at_builtin; refine wpList_append_any _ rfl (.tmp 32) (.tmp 34) _ rfl (w.heap.size + 1) 48 i0 _ 4 40 Tryz.underlying27 hi0 hz0 hz1 hz2 rfl hp2 (.slice A k c) k (vrows L) (by rfl) HOW.out _ (some ⟨V.heap.size, 0, none⟩) 1 1 [.int .i64 x.k, .int .i64 x.n, .int .u64 x.u, .string x.b] (by rfl) HX1.out hon h63 hby HS1.out ?_; intro v9 w9 hown9 hg9 hat9; obtain ⟨A9, c9, rfl⟩ := row_any hown9; have hlt9 := fun j e => (HOW.out.lt j e).1; have HN : Hid (Bel (w.alloc (.cells #[.slice (some ⟨bc, oc, none⟩) cols.length cc, vk, vu] 26)) w9 ∧ w9.ownsRow (w.heap.size + 1) 48 4 (.slice A9 (k + 1) c9) (k + 1) (vrows (L ++ [x]))) := ⟨Below.grown HBA.out hg9 HBA.out.size (fun j e => by have := hlt9 j e; simpa using this), by rw [HVA.out]; exact hown9⟩; clear hown9 hg9 hat9 hlt9)
              go_roundw
              case rel => exact ⟨k + 1, m + n, L ++ [x], by omega, HNM.out, by go_num, by first | rfl | go_num | (simp; done), ⟨A9, c9, rfl⟩, HNX.out, HN.out⟩
              case measure => simp [intOf]; omega
    · obtain rfl : k = cols.length := by omega
      have ht : R = some (L, m) := by
        have := HL.out.1
        rw [List.take_length] at this
        rw [HR.out]; exact this
      subst ht
      have HV := Lib.hid (HL.out.2.symm ▸ HO.out.2 : wr.ownsRow (w.heap.size + 1) 48 4 (.slice A cols.length c) L.length (vrows L))
      have HB := Lib.hid (((Bel.refl w).alloc (.cells #[.slice Ac cols.length cc, vk, vu] 26)).then_ HO.out.1)
      clear hlt hk
      go_wp2
      go_ret2
      exact ⟨_, rfl, HV.out, HB.out⟩
end Go.Proofs.YtkklmflclmgjeaaGreatDoor

/-
  A range over a function whose handed arguments are known as they come, whose body counts its rounds in one boxed variable, and may leave behind a round: the law for the loop (wp_countr).
-/
set_option linter.unusedVariables false
set_option linter.unusedSimpArgs false
set_option linter.unusedVariables false
set_option linter.unusedSimpArgs false
namespace Go.Proofs.YtkklmflclmgjeaaGreatDoor
open Go.RowKit Go.Shelf

theorem wp_countr {P : Program} {α : Type} {g : Operand} {ps : Array Tmp} {assign body : Code} {Q : Exit → Act → World → Prop} {a : Act} {w : World} (n : Nat)
    (h1 : 1 ≤ n) {gf : Nat} {bd lb : Array Value} (hg : a.eval g = .func (.func gf) bd lb) (eg : ∀ args w, (callFunc gf args).run P w = .ok (.enter gf args) w)
    {E : α × Array Value → World → Prop} {n₀ : Nat} {xs : List α} {w0 : World} (hseq : SeqR Fence.wide (n - 1) P gf bd lb E n₀ xs w0) (hn0 : n₀ ≤ w.heap.size) (hb0 : Below n₀ w0 w) (hps : ∀ x vs W, E (x, vs) W → vs.size = ps.size) (hE : OwnFrom w.heap.size E)
    (Bn : Nat) (hB0 : n₀ ≤ Bn) (hBw : Bn < w.heap.size) (hc : w.cell? ⟨Bn, 0, none⟩ = some (.int .i64 0)) (hf : w.frozen? ⟨Bn, 0, none⟩ = false) (id : Nat) (stops : Nat → Bool)
    (hround : ∀ (l : Nat) (x : α) (vs : Array Value) (W : World), E (x, vs) W →
      assign.wpIn (Fence.wide.inRound l) (n - 1 - 1) P (Exit.then (fun a' Wa => Wa = W ∧ ∀ (l k : Nat) (Wb : World), xs[k]? = some x → w.heap.size ≤ l → E (x, vs) Wb → w.grownBy Wb (some Bn) → Wb.cell? ⟨Bn, 0, none⟩ = some (.int .i64 k) → Wb.frozen? ⟨Bn, 0, none⟩ = false →
        body.wpIn (Fence.wide.inRound l) (n - 1 - 1) P (fun e _ W' => Wb.grownBy W' (some Bn) ∧ W'.cell? ⟨Bn, 0, none⟩ = some (.int .i64 (k + 1)) ∧ W'.frozen? ⟨Bn, 0, none⟩ = false ∧ (e = .normal ∧ stops (k + 1) = false ∨ e = .exit id ∧ stops (k + 1) = true)) a' Wb) (fun _ _ _ => False)) { tmps := (ps.zip vs).foldl (fun t (p, v) => t.setIfInBounds p v) a.tmps, defers := [] } W)
    (hex : ∀ (a : Act) (W : World), Q .normal a W → Q (.exit id) a W)
    (hout : ∀ (D k : Nat) (W : World), Count stops xs.length k → w.heap.size ≤ D → w.grownBy W (some Bn) → W.cell? ⟨Bn, 0, none⟩ = some (.int .i64 k) → W.heap[D]? = some (.deferred (some [])) →
      Q .normal { a with defers := { target := .collected D, args := #[] } :: a.defers } W) :
    (Code.rangeFunc g ps assign body).wp P Q a w := by
  refine wp_seqr_round n h1 hg eg hseq hn0 hb0 hps
    (fun pre W => ((W.cell? ⟨Bn, 0, none⟩ = some (.int .i64 pre.length) ∧ W.frozen? ⟨Bn, 0, none⟩ = false) ∧ (∀ j, 1 ≤ j → j ≤ pre.length → stops j = false)) ∧ w.grownBy W (some Bn))
    (fun c pre W => ((W.cell? ⟨Bn, 0, none⟩ = some (.int .i64 pre.length) ∧ W.frozen? ⟨Bn, 0, none⟩ = false) ∧ (c = .exit id ∧ stops pre.length = true ∧ ∀ j, 1 ≤ j → j < pre.length → stops j = false)) ∧ w.grownBy W (some Bn))
    ?hI ?hIx hE ?h0 ?round ?done ?stop
  case hI =>
    refine OwnFrom.and (fun pre A B row hs hg hr => ?_) (ownFrom_grown Bn)
    exact ⟨⟨cell_kept hs.1.1 hg (fun r e => (hr r e).2), (frozen_kept hs.1.1 hg (fun r e => (hr r e).2)).trans hs.1.2⟩, hs.2⟩
  case hIx =>
    intro c
    refine OwnFrom.and (fun pre A B row hs hg hr => ?_) (ownFrom_grown Bn)
    exact ⟨⟨cell_kept hs.1.1 hg (fun r e => (hr r e).2), (frozen_kept hs.1.1 hg (fun r e => (hr r e).2)).trans hs.1.2⟩, hs.2⟩
  case h0 => exact ⟨⟨⟨hc, hf⟩, fun j h1 h2 => by simp at h2; omega⟩, grown_refl _ _⟩
  case round =>
    intro l x vs W he
    refine wpIn_mono (hround l x vs W he) ?_
    intro e a' Wa hp
    cases e with
    | normal =>
      obtain ⟨rfl, hx⟩ := hp
      refine ⟨rfl, fun l pre rest Wb hxs hl hr hi hEb => ?_⟩
      obtain ⟨⟨⟨hc1, hf1⟩, hst⟩, hgw⟩ := hi
      refine wpIn_mono (hx l pre.length Wb (by rw [hxs]; simp) hl hEb hgw hc1 hf1) ?_
      rintro e a'' W' ⟨hg', hc', hf', hx⟩
      have hk : KeepsFrom w.heap.size Wb W' := KeepsFrom.of_grownBy hg' (fun j e => by cases e; exact hBw)
      have hb : Own n₀ (w.heap.size + 2) Wb W' := ⟨(Below.refl _ _).grown hg' (Nat.le_trans hn0 hgw.size) (fun j e => by cases e; exact hB0), fun j h1 h2 => hg'.block j h2 (fun e => by cases e; omega)⟩
      rcases hx with ⟨rfl, hs⟩ | ⟨rfl, hs⟩
      · refine ⟨hk, hb, ⟨⟨by rw [hc']; simp, hf'⟩, fun j h1 h2 => ?_⟩, grown_trans hgw hg'⟩
        simp at h2
        by_cases hj : j = pre.length + 1
        · rw [hj]; exact hs
        · exact hst j h1 (by omega)
      · refine ⟨hk, ⟨⟨by rw [hc']; simp, hf'⟩, rfl, by simpa using hs, fun j h1 h2 => ?_⟩, grown_trans hgw hg'⟩
        simp at h2
        exact hst j h1 (by omega)
    | ret => exact hp
    | exit id => exact hp
    | goto t => exact hp
    | panic ch => exact hp
    | outgrown => exact hp
  case done =>
    intro D W hD hi hdf
    exact hout D xs.length W (.inl ⟨rfl, hi.1.2⟩) hD hi.2 hi.1.1.1 hdf
  case stop =>
    intro D c pre x rest W hD hxs hi hdf
    obtain ⟨⟨⟨hc1, hf1⟩, rfl, hs, hst⟩, hgw⟩ := hi
    apply wp_exit
    exact hex _ _ (hout D (pre ++ [x]).length W (.inr ⟨by simp, by rw [hxs]; simp, hs, hst⟩) hD hgw hc1 hdf)
end Go.Proofs.YtkklmflclmgjeaaGreatDoor
