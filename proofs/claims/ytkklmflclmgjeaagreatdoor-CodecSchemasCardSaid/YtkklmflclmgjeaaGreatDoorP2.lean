/-
  The texts of the schema and of the codec, one behind the other: part 2.
-/
import Derived.Test.YtkklmflclmgjeaaGreatDoorP1
import Derived.StillTailTactics
import Derived.Deep.RegionHeld3
import Derived.Laws.RangeAny
/-
  Values: which may be.
-/
set_option linter.unusedVariables false
set_option linter.unusedSimpArgs false
set_option linter.unusedVariables false
set_option linter.unusedSimpArgs false
namespace Go.Proofs.YtkklmflclmgjeaaGreatDoor
open Go.RowKit Go.Shelf Go.Lib
attribute [local go_sem] Oper.semAt_some

def vkV (a b : Nat) : Value := .agg #[.func (.func a) #[] #[], .func (.func b) #[] #[]]
def vkE (a b : Nat) (k : Int) (j : Nat) : MapEntry := { key := .int .i64 k, val := vkV a b, born := j }
def vkMap : Array MapEntry := #[vkE 163 164 0 0, vkE 165 166 1 1, vkE 168 169 2 2, vkE 171 172 3 3, vkE 174 175 4 4]
theorem vkinds_at (w : World) : Calls Tryz.prog 140 #[] w fun e w' => e = .returned (.map (some w.heap.size)) ∧ w.alloc (.map vkMap 5) = w' := by
  have hmm := @run_makeMap Tryz.prog
  have u1 := run_mapUpdate_fresh (P := Tryz.prog) (T := 206) (K := 45) (E := 204) (k := .i64) Tryz.underlying206 Tryz.underlying45 (es := #[]) (a := 0) rfl 0 (vkV 163 164) w
  have u2 := run_mapUpdate_fresh (P := Tryz.prog) (T := 206) (K := 45) (E := 204) (k := .i64) Tryz.underlying206 Tryz.underlying45 (es := #[vkE 163 164 0 0]) (a := 1) rfl 1 (vkV 165 166) w
  have u3 := run_mapUpdate_fresh (P := Tryz.prog) (T := 206) (K := 45) (E := 204) (k := .i64) Tryz.underlying206 Tryz.underlying45 (es := #[vkE 163 164 0 0, vkE 165 166 1 1]) (a := 2) rfl 2 (vkV 168 169) w
  have u4 := run_mapUpdate_fresh (P := Tryz.prog) (T := 206) (K := 45) (E := 204) (k := .i64) Tryz.underlying206 Tryz.underlying45 (es := #[vkE 163 164 0 0, vkE 165 166 1 1, vkE 168 169 2 2]) (a := 3) rfl 3 (vkV 171 172) w
  have u5 := run_mapUpdate_fresh (P := Tryz.prog) (T := 206) (K := 45) (E := 204) (k := .i64) Tryz.underlying206 Tryz.underlying45 (es := #[vkE 163 164 0 0, vkE 165 166 1 1, vkE 168 169 2 2, vkE 171 172 3 3]) (a := 4) rfl 4 (vkV 174 175) w
  simp only [List.push_toArray, List.nil_append, List.cons_append, Nat.reduceAdd] at u1 u2 u3 u4 u5
  simp only [vkE, vkV] at u1 u2 u3 u4 u5
  go_enter Tryz.func140, Tryz.ntmps140
  go_wp2
  go_ret
  exact ⟨rfl, rfl⟩
theorem vkinds_any (w : World) : Calls Tryz.prog 140 #[] w fun e w' => ∃ b, e = .returned (.map (some b)) ∧ w'.heap[b]? = some (.map vkMap 5) ∧ Bel w w' :=
  (vkinds_at w).mono fun e w' ⟨he, hw⟩ => ⟨_, he, by rw [← hw]; exact World.alloc_heap_new _ _, by rw [← hw]; exact (Bel.refl w).alloc _⟩
def vkOf : Int → Value
  | 0 => vkV 163 164
  | 1 => vkV 165 166
  | 2 => vkV 168 169
  | 3 => vkV 171 172
  | _ => vkV 174 175
theorem vkLook {t : Int} (h1 : 0 ≤ t) (h4 : t ≤ 4) {b : Nat} {V : World} (hb : V.heap[b]? = some (.map vkMap 5)) :
    (Instr.lookup 206 (.map (some b)) (.int .i64 t) true).run Tryz.prog V = .ok (.tuple #[vkOf t, .bool true]) V := by
  have hc : t = 0 ∨ t = 1 ∨ t = 2 ∨ t = 3 ∨ t = 4 := by omega
  rcases hc with rfl | rfl | rfl | rfl | rfl
  · exact run_lookup_int_ok (k := .i64) Tryz.underlying206 Tryz.underlying45 (i := 0) rfl hb
  · exact run_lookup_int_ok (k := .i64) Tryz.underlying206 Tryz.underlying45 (i := 1) rfl hb
  · exact run_lookup_int_ok (k := .i64) Tryz.underlying206 Tryz.underlying45 (i := 2) rfl hb
  · exact run_lookup_int_ok (k := .i64) Tryz.underlying206 Tryz.underlying45 (i := 3) rfl hb
  · exact run_lookup_int_ok (k := .i64) Tryz.underlying206 Tryz.underlying45 (i := 4) rfl hb
theorem vkLookNo {t : Int} (h : ¬ (0 ≤ t ∧ t ≤ 4)) {b : Nat} {V : World} (hb : V.heap[b]? = some (.map vkMap 5)) :
    (Instr.lookup 206 (.map (some b)) (.int .i64 t) true).run Tryz.prog V = .ok (.tuple #[.agg #[.nilFunc, .nilFunc], .bool false]) V := by
  refine run_lookup_int_none (k := .i64) Tryz.underlying206 Tryz.underlying45 ?_ ?_ hb
  · have h0 : (t == 0) = false := by rw [beq_eq_false_iff_ne]; omega
    have h1 : (t == 1) = false := by rw [beq_eq_false_iff_ne]; omega
    have h2 : (t == 2) = false := by rw [beq_eq_false_iff_ne]; omega
    have h3 : (t == 3) = false := by rw [beq_eq_false_iff_ne]; omega
    have h4 : (t == 4) = false := by rw [beq_eq_false_iff_ne]; omega
    simp [vkMap, vkE, Instr.findNow, Instr.sameNow, h0, h1, h2, h3, h4]
  · kernel_rfl
def Val.bare (x : Val) : Val := ⟨x.k, if x.k = 1 ∨ x.k = 3 then x.n else 0, if x.k = 2 then x.u else 0, if x.k = 4 then x.b else ⟨#[]⟩⟩
theorem vbare_any (x : Val) (w : World) : Calls Tryz.prog 141 #[x.v] w fun e w' => e = .returned x.bare.v ∧ Bel w w' := by
  obtain ⟨k, n, u, b⟩ := x
  by_cases hk : 0 ≤ k ∧ k ≤ 4
  · have hc : k = 0 ∨ k = 1 ∨ k = 2 ∨ k = 3 ∨ k = 4 := by omega
    clear hk
    rcases hc with rfl | rfl | rfl | rfl | rfl
    all_goals
      show Calls Tryz.prog 141 #[.agg #[.int .i64 _, .int .i64 n, .int .u64 u, .string b]] w _
      go_enter Tryz.func141, Tryz.ntmps141
      go_wp2
      refine bodyPost_ret (v := _) (by simp [results, Tryz.results141, go_sem]; rfl) rfl ⟨by simp [Val.bare, Val.v], by (repeat (first | exact Below.refl _ _ | assumption | exact Bel.refl _ | refine Bel.alloc ?_ _ | refine Bel.drew ?_ | refine Bel.drewN ?_ _ | refine Bel.then_ ?_ (by assumption) | refine Bel.setCell ?_ (by first | (simp; done) | (simp; omega)) _))⟩
  · have h1 : (k == 1) = false := by rw [beq_eq_false_iff_ne]; omega
    have h2 : (k == 2) = false := by rw [beq_eq_false_iff_ne]; omega
    have h3 : (k == 3) = false := by rw [beq_eq_false_iff_ne]; omega
    have h4 : (k == 4) = false := by rw [beq_eq_false_iff_ne]; omega
    have hb : (Val.bare ⟨k, n, u, b⟩) = ⟨k, 0, 0, ⟨#[]⟩⟩ := by
      unfold Val.bare
      dsimp only
      rw [if_neg (by omega), if_neg (by omega), if_neg (by omega)]
    rw [hb]
    clear hb hk
    show Calls Tryz.prog 141 #[.agg #[.int .i64 _, .int .i64 n, .int .u64 u, .string b]] w _
    go_enter Tryz.func141, Tryz.ntmps141
    go_wp2
    refine bodyPost_ret (v := _) (by simp [results, Tryz.results141, go_sem]; rfl) rfl ⟨rfl, by (repeat (first | exact Below.refl _ _ | assumption | exact Bel.refl _ | refine Bel.alloc ?_ _ | refine Bel.drew ?_ | refine Bel.drewN ?_ _ | refine Bel.then_ ?_ (by assumption) | refine Bel.setCell ?_ (by first | (simp; done) | (simp; omega)) _))⟩
theorem bytes_eq_iff {d d' : ByteArray} : d.toList = d'.toList ↔ d = d' := ⟨fun h => WideShapes.bytes_inj (by rwa [ByteArray.toList_eq, ByteArray.toList_eq] at h), fun h => by rw [h]⟩
theorem val_ne (x y : Val) (w : World) : (binOp .neq 48 x.v y.v).run Tryz.prog w = .ok (.bool (decide (x ≠ y))) w := by
  obtain ⟨a, b, c, d⟩ := x
  obtain ⟨a', b', c', d'⟩ := y
  unfold Val.v
  dsimp only
  go_simp
  simp only [bytes_eq_iff]
  by_cases h1 : a = a' <;> by_cases h2 : b = b' <;> by_cases h3 : c = c' <;> by_cases h4 : d = d' <;> simp [h1, h2, h3, h4]
theorem vmay_any (f : Nat) (hf : f = 163 ∨ f = 165 ∨ f = 168 ∨ f = 174) (x : Val) (w : World) : Calls Tryz.prog f #[x.v] w fun e w' => e = .returned (.bool true) ∧ Bel w w' := by
  obtain ⟨k, n, u, b⟩ := x
  unfold Val.v
  dsimp only
  rcases hf with rfl | rfl | rfl | rfl
  · go_enter Tryz.func163, Tryz.ntmps163
    go_wp2
    go_ret
    exact ⟨rfl, by (repeat (first | exact Below.refl _ _ | assumption | exact Bel.refl _ | refine Bel.alloc ?_ _ | refine Bel.drew ?_ | refine Bel.drewN ?_ _ | refine Bel.then_ ?_ (by assumption) | refine Bel.setCell ?_ (by first | (simp; done) | (simp; omega)) _))⟩
  · go_enter Tryz.func165, Tryz.ntmps165
    go_wp2
    go_ret
    exact ⟨rfl, by (repeat (first | exact Below.refl _ _ | assumption | exact Bel.refl _ | refine Bel.alloc ?_ _ | refine Bel.drew ?_ | refine Bel.drewN ?_ _ | refine Bel.then_ ?_ (by assumption) | refine Bel.setCell ?_ (by first | (simp; done) | (simp; omega)) _))⟩
  · go_enter Tryz.func168, Tryz.ntmps168
    go_wp2
    go_ret
    exact ⟨rfl, by (repeat (first | exact Below.refl _ _ | assumption | exact Bel.refl _ | refine Bel.alloc ?_ _ | refine Bel.drew ?_ | refine Bel.drewN ?_ _ | refine Bel.then_ ?_ (by assumption) | refine Bel.setCell ?_ (by first | (simp; done) | (simp; omega)) _))⟩
  · go_enter Tryz.func174, Tryz.ntmps174
    go_wp2
    go_ret
    exact ⟨rfl, by (repeat (first | exact Below.refl _ _ | assumption | exact Bel.refl _ | refine Bel.alloc ?_ _ | refine Bel.drew ?_ | refine Bel.drewN ?_ _ | refine Bel.then_ ?_ (by assumption) | refine Bel.setCell ?_ (by first | (simp; done) | (simp; omega)) _))⟩
theorem vmayBool_any (x : Val) (w : World) : Calls Tryz.prog 171 #[x.v] w fun e w' => e = .returned (.bool (decide (x.n = 0 ∨ x.n = 1))) ∧ Bel w w' := by
  obtain ⟨k, n, u, b⟩ := x
  unfold Val.v
  dsimp only
  by_cases h : n = 0
  · subst h
    go_enter Tryz.func171, Tryz.ntmps171
    go_wp2
    go_ret
    exact ⟨rfl, by (repeat (first | exact Below.refl _ _ | assumption | exact Bel.refl _ | refine Bel.alloc ?_ _ | refine Bel.drew ?_ | refine Bel.drewN ?_ _ | refine Bel.then_ ?_ (by assumption) | refine Bel.setCell ?_ (by first | (simp; done) | (simp; omega)) _))⟩
  · by_cases h2 : n = 1
    · subst h2
      go_enter Tryz.func171, Tryz.ntmps171
      go_wp2
      go_ret
      exact ⟨rfl, by (repeat (first | exact Below.refl _ _ | assumption | exact Bel.refl _ | refine Bel.alloc ?_ _ | refine Bel.drew ?_ | refine Bel.drewN ?_ _ | refine Bel.then_ ?_ (by assumption) | refine Bel.setCell ?_ (by first | (simp; done) | (simp; omega)) _))⟩
    · have h1 : (n == 0) = false := by rw [beq_eq_false_iff_ne]; exact h
      have h3 : (n == 1) = false := by rw [beq_eq_false_iff_ne]; exact h2
      rw [decide_eq_false (by omega)]
      go_enter Tryz.func171, Tryz.ntmps171
      go_wp2
      go_ret
      exact ⟨by first | rfl | simp [h1, h3], by (repeat (first | exact Below.refl _ _ | assumption | exact Bel.refl _ | refine Bel.alloc ?_ _ | refine Bel.drew ?_ | refine Bel.drewN ?_ _ | refine Bel.then_ ?_ (by assumption) | refine Bel.setCell ?_ (by first | (simp; done) | (simp; omega)) _))⟩
def mayB (x : Val) : Bool := decide (x.k = 3 → x.n = 0 ∨ x.n = 1)
theorem vkOf_is {t : Int} (h1 : 0 ≤ t) (h4 : t ≤ 4) : ∃ f g, vkOf t = vkV f g ∧ (∀ args w, (callFunc f args).run Tryz.prog w = .ok (.enter f args) w) ∧
    ∀ x : Val, x.k = t → ∀ w, Calls Tryz.prog f #[x.v] w fun e w' => e = .returned (.bool (mayB x)) ∧ Bel w w' := by
  have hc : t = 0 ∨ t = 1 ∨ t = 2 ∨ t = 3 ∨ t = 4 := by omega
  have hm : ∀ x : Val, x.k ≠ 3 → mayB x = true := fun x h => decide_eq_true (fun e => absurd e h)
  rcases hc with rfl | rfl | rfl | rfl | rfl
  · exact ⟨_, _, rfl, enters_of Tryz.func163 (by kernel_rfl) rfl, fun x hx w => by rw [hm x (by omega)]; exact vmay_any _ (by decide) x w⟩
  · exact ⟨_, _, rfl, enters_of Tryz.func165 (by kernel_rfl) rfl, fun x hx w => by rw [hm x (by omega)]; exact vmay_any _ (by decide) x w⟩
  · exact ⟨_, _, rfl, enters_of Tryz.func168 (by kernel_rfl) rfl, fun x hx w => by rw [hm x (by omega)]; exact vmay_any _ (by decide) x w⟩
  · exact ⟨_, _, rfl, enters_of Tryz.func171 (by kernel_rfl) rfl, fun x hx w => by
      have : mayB x = decide (x.n = 0 ∨ x.n = 1) := by unfold mayB; simp [hx]
      rw [this]
      exact vmayBool_any x w⟩
  · exact ⟨_, _, rfl, enters_of Tryz.func174 (by kernel_rfl) rfl, fun x hx w => by rw [hm x (by omega)]; exact vmay_any _ (by decide) x w⟩
def checkI (x : Val) : Int := if x.k < 0 ∨ 4 < x.k ∨ x ≠ x.bare ∨ mayB x = false then 2 else if 200 < x.b.size then 3 else 0
set_option maxRecDepth 100000 in
set_option maxHeartbeats 4000000 in
theorem vCheck_any (x : Val) (w : World) : Calls Tryz.prog 97 #[x.v] w fun e w' => e = .returned (.int .i64 (checkI x)) ∧ Bel w w' := by
  obtain ⟨k, n, u, b⟩ := x
  obtain ⟨R, hR⟩ : ∃ R, R = checkI ⟨k, n, u, b⟩ := ⟨_, rfl⟩
  rw [← hR]
  have HR := Lib.hid hR
  clear hR
  unfold Val.v
  dsimp only
  by_cases ht : 0 ≤ k ∧ k ≤ 4
  · obtain ⟨f, g, hk, egf, hsz⟩ := vkOf_is ht.1 ht.2
    have HSZ := Lib.hid (fun V => hsz ⟨k, n, u, b⟩ rfl V)
    clear hsz
    have HLO := Lib.hid (fun (b : Nat) (V : World) (hb : V.heap[b]? = some (.map vkMap 5)) => vkLook ht.1 ht.2 hb)
    rw [hk] at HLO
    unfold vkV at HLO
    have HK := Lib.hid hk
    have HT := Lib.hid ht
    clear hk ht
    go_enter Tryz.func97, Tryz.ntmps97
    go_wp2
    obtain ⟨w1, hw1⟩ : ∃ w1, w1 = w.alloc (.cells #[.int .i64 k, .int .i64 n, .int .u64 u, .string b] 48) := ⟨_, rfl⟩
    rw [← hw1]
    have hb1 : Bel w w1 := by rw [hw1]; exact (Bel.refl w).alloc _
    have hc0 : w1.cell? ⟨w.heap.size, 0, none⟩ = some (.int .i64 k) := by rw [hw1]; go_simp
    have hc1 : w1.cell? ⟨w.heap.size, 1, none⟩ = some (.int .i64 n) := by rw [hw1]; go_simp
    have hc2 : w1.cell? ⟨w.heap.size, 2, none⟩ = some (.int .u64 u) := by rw [hw1]; go_simp
    have hc3 : w1.cell? ⟨w.heap.size, 3, none⟩ = some (.string b) := by rw [hw1]; go_simp
    clear hw1
    have hS : ∀ V, Bel w1 V → (Bel w1 V ∧ V.cell? ⟨w.heap.size, 0, none⟩ = some (.int .i64 k)) := fun V h => ⟨h, h.c hc0⟩
    apply wp_cut2 (R := fun bm bx V => Bel w1 V ∧ V.cell? ⟨bx, 0, none⟩ = some (.func (.func f) #[] #[]))
    case h =>
      refine wp_region_noPanic ?_
      refine wp_region_held_drew (S := (fun V : World => Bel w1 V ∧ V.cell? ⟨w.heap.size, 0, none⟩ = some (.int .i64 k))) (by kernel_rfl) ?_ (fun hHr1_0 => ?_)
      · (try dsimp only); (first | assumption | exact hS _ (Bel.refl w1).drew | exact hS _ hB2 | exact hS _ (Bel.alloc hB2 _) | exact hS _ (Bel.alloc (Bel.refl w1).drew _) | exact hS _ (Bel.setCell (Bel.setCell hB2 (Nat.le_refl _) _) (Nat.le_refl _) _))
      refine wpAnyH_take (i := 1) (oi := _) (v := ?vr1_1_1) rfl (by kernel_rfl) (by kernel_rfl) (by kernel_rfl) ?hqr1_1_1 (Or.inl ⟨by kernel_rfl, ?hyr1_1_1⟩) (by assumption) ?restr1_1_1
      case hqr1_1_1 => exact fun _ _ _ h => h
      case hyr1_1_1 => (intro w hSw; (try dsimp only at hSw); go_simp; try with_reducible rfl)
      try simp only [Act.put, List.getElem_toArray, List.getElem_cons_succ, List.getElem_cons_zero, List.setIfInBounds_toArray, List.set_cons_zero, List.set_cons_succ]
      refine wpAnyH_take (i := 2) (oi := _) (v := ?vr1_1_2) rfl (by kernel_rfl) (by kernel_rfl) (by kernel_rfl) ?hqr1_1_2 (Or.inl ⟨by kernel_rfl, ?hyr1_1_2⟩) (by assumption) ?restr1_1_2
      case hqr1_1_2 => exact fun _ _ _ h => h
      case hyr1_1_2 => (intro w hSw; (try dsimp only at hSw); go_simp; try with_reducible rfl)
      try simp only [Act.put, List.getElem_toArray, List.getElem_cons_succ, List.getElem_cons_zero, List.setIfInBounds_toArray, List.set_cons_zero, List.set_cons_succ]
      refine wpAnyH_ready (rs := [0, 7]) (by kernel_rfl) (by simp) ?_
      refine AllReadyH.cons (o := _) rfl (fun K hK => ?_) (AllReadyH.cons (o := _) rfl (fun K hK => ?_) (AllReadyH.nil))
      · go_simp
        (go_at_call 140; refine (vkinds_any _).mono ?_; rintro e w2 ⟨bm, rfl, hm, hb2⟩; have hB2 : Bel w1 w2 := Bel.then_ (Bel.refl w1).drew hb2)
        try (go_wp2_with fail)
        refine hK.out _ _ ?_ (fun hHr1_1 => ?_)
        · (try dsimp only); (first | assumption | exact hS _ (Bel.refl w1).drew | exact hS _ hB2 | exact hS _ (Bel.alloc hB2 _) | exact hS _ (Bel.alloc (Bel.refl w1).drew _) | exact hS _ (Bel.setCell (Bel.setCell hB2 (Nat.le_refl _) _) (Nat.le_refl _) _))
        clear hK K hHr1_0
        try simp only [Act.put, List.getElem_toArray, List.getElem_cons_succ, List.getElem_cons_zero, List.setIfInBounds_toArray, List.set_cons_zero, List.set_cons_succ]
        refine wpAnyH_ready (rs := [3, 7]) (by kernel_rfl) (by simp) ?_
        refine AllReadyH.cons (o := _) rfl (fun K hK => ?_) (AllReadyH.cons (o := _) rfl (fun K hK => ?_) (AllReadyH.nil))
        · go_simp
          ((have hlk := HLO.out bm _ hm); go_simp)
          refine hK.out _ _ ?_ (fun hHr1_2 => ?_)
          · (try dsimp only); (first | assumption | exact hS _ (Bel.refl w1).drew | exact hS _ hB2 | exact hS _ (Bel.alloc hB2 _) | exact hS _ (Bel.alloc (Bel.refl w1).drew _) | exact hS _ (Bel.setCell (Bel.setCell hB2 (Nat.le_refl _) _) (Nat.le_refl _) _))
          clear hK K hHr1_1
          try simp only [Act.put, List.getElem_toArray, List.getElem_cons_succ, List.getElem_cons_zero, List.setIfInBounds_toArray, List.set_cons_zero, List.set_cons_succ]
          refine wpAnyH_take (i := 4) (oi := _) (v := ?vr1_3_4) rfl (by kernel_rfl) (by kernel_rfl) (by kernel_rfl) ?hqr1_3_4 (Or.inl ⟨by kernel_rfl, ?hyr1_3_4⟩) (by assumption) ?restr1_3_4
          case hqr1_3_4 => exact fun _ _ _ h => h
          case hyr1_3_4 => (intro w hSw; (try dsimp only at hSw); go_simp; try with_reducible rfl)
          try simp only [Act.put, List.getElem_toArray, List.getElem_cons_succ, List.getElem_cons_zero, List.setIfInBounds_toArray, List.set_cons_zero, List.set_cons_succ]
          refine wpAnyH_take (i := 5) (oi := _) (v := ?vr1_3_5) rfl (by kernel_rfl) (by kernel_rfl) (by kernel_rfl) ?hqr1_3_5 (Or.inl ⟨by kernel_rfl, ?hyr1_3_5⟩) (by assumption) ?restr1_3_5
          case hqr1_3_5 => exact fun _ _ _ h => h
          case hyr1_3_5 => (intro w hSw; (try dsimp only at hSw); go_simp; try with_reducible rfl)
          try simp only [Act.put, List.getElem_toArray, List.getElem_cons_succ, List.getElem_cons_zero, List.setIfInBounds_toArray, List.set_cons_zero, List.set_cons_succ]
          refine wpAnyH_take (i := 6) (oi := _) (v := ?vr1_3_6) rfl (by kernel_rfl) (by kernel_rfl) (by kernel_rfl) ?hqr1_3_6 (Or.inl ⟨by kernel_rfl, ?hyr1_3_6⟩) (by assumption) ?restr1_3_6
          case hqr1_3_6 => exact fun _ _ _ h => h
          case hyr1_3_6 => (intro w hSw; (try dsimp only at hSw); go_simp; try with_reducible rfl)
          try simp only [Act.put, List.getElem_toArray, List.getElem_cons_succ, List.getElem_cons_zero, List.setIfInBounds_toArray, List.set_cons_zero, List.set_cons_succ]
          refine wpAnyH_ready (rs := [7]) (by kernel_rfl) (by simp) ?_
          refine AllReadyH.cons (o := _) rfl (fun K hK => ?_) AllReadyH.nil
          go_simp
          refine hK.out _ _ ?_ (fun hHr1_3 => ?_)
          · (try dsimp only); (first | assumption | exact hS _ (Bel.refl w1).drew | exact hS _ hB2 | exact hS _ (Bel.alloc hB2 _) | exact hS _ (Bel.alloc (Bel.refl w1).drew _) | exact hS _ (Bel.setCell (Bel.setCell hB2 (Nat.le_refl _) _) (Nat.le_refl _) _))
          clear hK K hHr1_2
          try simp only [Act.put, List.getElem_toArray, List.getElem_cons_succ, List.getElem_cons_zero, List.setIfInBounds_toArray, List.set_cons_zero, List.set_cons_succ]
          refine wpAnyH_ready (rs := [8]) (by kernel_rfl) (by simp) ?_
          refine AllReadyH.cons (o := _) rfl (fun K hK => ?_) AllReadyH.nil
          go_simp
          refine hK.out _ _ ?_ (fun hHr1_4 => ?_)
          · (try dsimp only); (first | assumption | exact hS _ (Bel.refl w1).drew | exact hS _ hB2 | exact hS _ (Bel.alloc hB2 _) | exact hS _ (Bel.alloc (Bel.refl w1).drew _) | exact hS _ (Bel.setCell (Bel.setCell hB2 (Nat.le_refl _) _) (Nat.le_refl _) _))
          clear hK K hHr1_3
          try simp only [Act.put, List.getElem_toArray, List.getElem_cons_succ, List.getElem_cons_zero, List.setIfInBounds_toArray, List.set_cons_zero, List.set_cons_succ]
          refine wpAnyH_take (i := 9) (oi := _) (v := ?vr1_3_9) rfl (by kernel_rfl) (by kernel_rfl) (by kernel_rfl) ?hqr1_3_9 (Or.inl ⟨by kernel_rfl, ?hyr1_3_9⟩) (by assumption) ?restr1_3_9
          case hqr1_3_9 => exact fun _ _ _ h => h
          case hyr1_3_9 => (intro w hSw; (try dsimp only at hSw); go_simp; try with_reducible rfl)
          try simp only [Act.put, List.getElem_toArray, List.getElem_cons_succ, List.getElem_cons_zero, List.setIfInBounds_toArray, List.set_cons_zero, List.set_cons_succ]
          refine wpAnyH_done (by kernel_rfl) ?_ _
          refine NoPanic.normal ?_
          (refine ⟨bm, w2.heap.size, rfl, ?_, hHr1_4.1, by go_simp⟩; generalize w2.heap.size = bx; exact rfl)
        · go_simp
          refine hK.out _ _ ?_ (fun hHr1_2 => ?_)
          · (try dsimp only); (first | assumption | exact hS _ (Bel.refl w1).drew | exact hS _ hB2 | exact hS _ (Bel.alloc hB2 _) | exact hS _ (Bel.alloc (Bel.refl w1).drew _) | exact hS _ (Bel.setCell (Bel.setCell hB2 (Nat.le_refl _) _) (Nat.le_refl _) _))
          clear hK K hHr1_1
          try simp only [Act.put, List.getElem_toArray, List.getElem_cons_succ, List.getElem_cons_zero, List.setIfInBounds_toArray, List.set_cons_zero, List.set_cons_succ]
          refine wpAnyH_ready (rs := [3]) (by kernel_rfl) (by simp) ?_
          refine AllReadyH.cons (o := _) rfl (fun K hK => ?_) AllReadyH.nil
          go_simp
          ((have hlk := HLO.out bm _ (((Bel.refl w2).alloc (.cells #[.nilFunc, .nilFunc] 204)).deferred hm)); go_simp)
          refine hK.out _ _ ?_ (fun hHr1_3 => ?_)
          · (try dsimp only); (first | assumption | exact hS _ (Bel.refl w1).drew | exact hS _ hB2 | exact hS _ (Bel.alloc hB2 _) | exact hS _ (Bel.alloc (Bel.refl w1).drew _) | exact hS _ (Bel.setCell (Bel.setCell hB2 (Nat.le_refl _) _) (Nat.le_refl _) _))
          clear hK K hHr1_2
          try simp only [Act.put, List.getElem_toArray, List.getElem_cons_succ, List.getElem_cons_zero, List.setIfInBounds_toArray, List.set_cons_zero, List.set_cons_succ]
          refine wpAnyH_take (i := 4) (oi := _) (v := ?vr1_4_4) rfl (by kernel_rfl) (by kernel_rfl) (by kernel_rfl) ?hqr1_4_4 (Or.inl ⟨by kernel_rfl, ?hyr1_4_4⟩) (by assumption) ?restr1_4_4
          case hqr1_4_4 => exact fun _ _ _ h => h
          case hyr1_4_4 => (intro w hSw; (try dsimp only at hSw); go_simp; try with_reducible rfl)
          try simp only [Act.put, List.getElem_toArray, List.getElem_cons_succ, List.getElem_cons_zero, List.setIfInBounds_toArray, List.set_cons_zero, List.set_cons_succ]
          refine wpAnyH_take (i := 5) (oi := _) (v := ?vr1_4_5) rfl (by kernel_rfl) (by kernel_rfl) (by kernel_rfl) ?hqr1_4_5 (Or.inl ⟨by kernel_rfl, ?hyr1_4_5⟩) (by assumption) ?restr1_4_5
          case hqr1_4_5 => exact fun _ _ _ h => h
          case hyr1_4_5 => (intro w hSw; (try dsimp only at hSw); go_simp; try with_reducible rfl)
          try simp only [Act.put, List.getElem_toArray, List.getElem_cons_succ, List.getElem_cons_zero, List.setIfInBounds_toArray, List.set_cons_zero, List.set_cons_succ]
          refine wpAnyH_take (i := 6) (oi := _) (v := ?vr1_4_6) rfl (by kernel_rfl) (by kernel_rfl) (by kernel_rfl) ?hqr1_4_6 (Or.inl ⟨by kernel_rfl, ?hyr1_4_6⟩) (by assumption) ?restr1_4_6
          case hqr1_4_6 => exact fun _ _ _ h => h
          case hyr1_4_6 => (intro w hSw; (try dsimp only at hSw); go_simp; try with_reducible rfl)
          try simp only [Act.put, List.getElem_toArray, List.getElem_cons_succ, List.getElem_cons_zero, List.setIfInBounds_toArray, List.set_cons_zero, List.set_cons_succ]
          refine wpAnyH_ready (rs := [8]) (by kernel_rfl) (by simp) ?_
          refine AllReadyH.cons (o := _) rfl (fun K hK => ?_) AllReadyH.nil
          go_simp
          refine hK.out _ _ ?_ (fun hHr1_4 => ?_)
          · (try dsimp only); (first | assumption | exact hS _ (Bel.refl w1).drew | exact hS _ hB2 | exact hS _ (Bel.alloc hB2 _) | exact hS _ (Bel.alloc (Bel.refl w1).drew _) | exact hS _ (Bel.setCell (Bel.setCell hB2 (Nat.le_refl _) _) (Nat.le_refl _) _))
          clear hK K hHr1_3
          try simp only [Act.put, List.getElem_toArray, List.getElem_cons_succ, List.getElem_cons_zero, List.setIfInBounds_toArray, List.set_cons_zero, List.set_cons_succ]
          refine wpAnyH_take (i := 9) (oi := _) (v := ?vr1_4_9) rfl (by kernel_rfl) (by kernel_rfl) (by kernel_rfl) ?hqr1_4_9 (Or.inl ⟨by kernel_rfl, ?hyr1_4_9⟩) (by assumption) ?restr1_4_9
          case hqr1_4_9 => exact fun _ _ _ h => h
          case hyr1_4_9 => (intro w hSw; (try dsimp only at hSw); go_simp; try with_reducible rfl)
          try simp only [Act.put, List.getElem_toArray, List.getElem_cons_succ, List.getElem_cons_zero, List.setIfInBounds_toArray, List.set_cons_zero, List.set_cons_succ]
          refine wpAnyH_done (by kernel_rfl) ?_ _
          refine NoPanic.normal ?_
          (refine ⟨bm, w2.heap.size, rfl, ?_, hHr1_4.1, by go_simp⟩; generalize w2.heap.size = bx; exact rfl)
      · go_simp
        refine hK.out _ _ ?_ (fun hHr1_1 => ?_)
        · (try dsimp only); (first | assumption | exact hS _ (Bel.refl w1).drew | exact hS _ hB2 | exact hS _ (Bel.alloc hB2 _) | exact hS _ (Bel.alloc (Bel.refl w1).drew _) | exact hS _ (Bel.setCell (Bel.setCell hB2 (Nat.le_refl _) _) (Nat.le_refl _) _))
        clear hK K hHr1_0
        try simp only [Act.put, List.getElem_toArray, List.getElem_cons_succ, List.getElem_cons_zero, List.setIfInBounds_toArray, List.set_cons_zero, List.set_cons_succ]
        refine wpAnyH_ready (rs := [0]) (by kernel_rfl) (by simp) ?_
        refine AllReadyH.cons (o := _) rfl (fun K hK => ?_) AllReadyH.nil
        go_simp
        (go_at_call 140; refine (vkinds_any _).mono ?_; rintro e w2 ⟨bm, rfl, hm, hb2⟩; have hB2 : Bel w1 w2 := Bel.then_ (Bel.alloc (Bel.refl w1).drew _) hb2; have z0 : w2.cell? ⟨w1.heap.size, 0, none⟩ = some .nilFunc := hb2.c (by go_simp); have z1 : w2.cell? ⟨w1.heap.size, 1, none⟩ = some .nilFunc := hb2.c (by go_simp); have y0 : w2.frozen? ⟨w1.heap.size, 0, none⟩ = false := (Below.frozen hb2 (by simp)).trans (by go_simp); have y1 : w2.frozen? ⟨w1.heap.size, 1, none⟩ = false := (Below.frozen hb2 (by simp)).trans (by go_simp))
        try (go_wp2_with fail)
        refine hK.out _ _ ?_ (fun hHr1_2 => ?_)
        · (try dsimp only); (first | assumption | exact hS _ (Bel.refl w1).drew | exact hS _ hB2 | exact hS _ (Bel.alloc hB2 _) | exact hS _ (Bel.alloc (Bel.refl w1).drew _) | exact hS _ (Bel.setCell (Bel.setCell hB2 (Nat.le_refl _) _) (Nat.le_refl _) _))
        clear hK K hHr1_1
        try simp only [Act.put, List.getElem_toArray, List.getElem_cons_succ, List.getElem_cons_zero, List.setIfInBounds_toArray, List.set_cons_zero, List.set_cons_succ]
        refine wpAnyH_ready (rs := [3]) (by kernel_rfl) (by simp) ?_
        refine AllReadyH.cons (o := _) rfl (fun K hK => ?_) AllReadyH.nil
        go_simp
        ((have hlk := HLO.out bm _ hm); go_simp)
        refine hK.out _ _ ?_ (fun hHr1_3 => ?_)
        · (try dsimp only); (first | assumption | exact hS _ (Bel.refl w1).drew | exact hS _ hB2 | exact hS _ (Bel.alloc hB2 _) | exact hS _ (Bel.alloc (Bel.refl w1).drew _) | exact hS _ (Bel.setCell (Bel.setCell hB2 (Nat.le_refl _) _) (Nat.le_refl _) _))
        clear hK K hHr1_2
        try simp only [Act.put, List.getElem_toArray, List.getElem_cons_succ, List.getElem_cons_zero, List.setIfInBounds_toArray, List.set_cons_zero, List.set_cons_succ]
        refine wpAnyH_take (i := 4) (oi := _) (v := ?vr1_5_4) rfl (by kernel_rfl) (by kernel_rfl) (by kernel_rfl) ?hqr1_5_4 (Or.inl ⟨by kernel_rfl, ?hyr1_5_4⟩) (by assumption) ?restr1_5_4
        case hqr1_5_4 => exact fun _ _ _ h => h
        case hyr1_5_4 => (intro w hSw; (try dsimp only at hSw); go_simp; try with_reducible rfl)
        try simp only [Act.put, List.getElem_toArray, List.getElem_cons_succ, List.getElem_cons_zero, List.setIfInBounds_toArray, List.set_cons_zero, List.set_cons_succ]
        refine wpAnyH_take (i := 5) (oi := _) (v := ?vr1_5_5) rfl (by kernel_rfl) (by kernel_rfl) (by kernel_rfl) ?hqr1_5_5 (Or.inl ⟨by kernel_rfl, ?hyr1_5_5⟩) (by assumption) ?restr1_5_5
        case hqr1_5_5 => exact fun _ _ _ h => h
        case hyr1_5_5 => (intro w hSw; (try dsimp only at hSw); go_simp; try with_reducible rfl)
        try simp only [Act.put, List.getElem_toArray, List.getElem_cons_succ, List.getElem_cons_zero, List.setIfInBounds_toArray, List.set_cons_zero, List.set_cons_succ]
        refine wpAnyH_take (i := 6) (oi := _) (v := ?vr1_5_6) rfl (by kernel_rfl) (by kernel_rfl) (by kernel_rfl) ?hqr1_5_6 (Or.inl ⟨by kernel_rfl, ?hyr1_5_6⟩) (by assumption) ?restr1_5_6
        case hqr1_5_6 => exact fun _ _ _ h => h
        case hyr1_5_6 => (intro w hSw; (try dsimp only at hSw); go_simp; try with_reducible rfl)
        try simp only [Act.put, List.getElem_toArray, List.getElem_cons_succ, List.getElem_cons_zero, List.setIfInBounds_toArray, List.set_cons_zero, List.set_cons_succ]
        refine wpAnyH_ready (rs := [8]) (by kernel_rfl) (by simp) ?_
        refine AllReadyH.cons (o := _) rfl (fun K hK => ?_) AllReadyH.nil
        go_simp
        refine hK.out _ _ ?_ (fun hHr1_4 => ?_)
        · (try dsimp only); (first | assumption | exact hS _ (Bel.refl w1).drew | exact hS _ hB2 | exact hS _ (Bel.alloc hB2 _) | exact hS _ (Bel.alloc (Bel.refl w1).drew _) | exact hS _ (Bel.setCell (Bel.setCell hB2 (Nat.le_refl _) _) (Nat.le_refl _) _))
        clear hK K hHr1_3
        try simp only [Act.put, List.getElem_toArray, List.getElem_cons_succ, List.getElem_cons_zero, List.setIfInBounds_toArray, List.set_cons_zero, List.set_cons_succ]
        refine wpAnyH_take (i := 9) (oi := _) (v := ?vr1_5_9) rfl (by kernel_rfl) (by kernel_rfl) (by kernel_rfl) ?hqr1_5_9 (Or.inl ⟨by kernel_rfl, ?hyr1_5_9⟩) (by assumption) ?restr1_5_9
        case hqr1_5_9 => exact fun _ _ _ h => h
        case hyr1_5_9 => (intro w hSw; (try dsimp only at hSw); go_simp; try with_reducible rfl)
        try simp only [Act.put, List.getElem_toArray, List.getElem_cons_succ, List.getElem_cons_zero, List.setIfInBounds_toArray, List.set_cons_zero, List.set_cons_succ]
        refine wpAnyH_done (by kernel_rfl) ?_ _
        refine NoPanic.normal ?_
        (refine ⟨bm, w1.heap.size, rfl, ?_, hHr1_4.1, by go_simp⟩; generalize w1.heap.size = bx; exact rfl)
    case k =>
      rintro bm bx V ⟨hb, hk0⟩
      have HB := Lib.hid (hb1.then_ hb)
      have hd0 := hb.c hc0
      have hd1 := hb.c hc1
      have hd2 := hb.c hc2
      have hd3 := hb.c hc3
      clear hS hb1 hb hc0 hc1 hc2 hc3
      go_wp2
      have hS : ∀ V', Bel V V' → (Bel V V' ∧ V'.cell? ⟨w.heap.size, 0, none⟩ = some (.int .i64 k) ∧ V'.cell? ⟨w.heap.size, 1, none⟩ = some (.int .i64 n) ∧ V'.cell? ⟨w.heap.size, 2, none⟩ = some (.int .u64 u) ∧ V'.cell? ⟨w.heap.size, 3, none⟩ = some (.string b) ∧ V'.cell? ⟨bx, 0, none⟩ = some (.func (.func f) #[] #[])) := fun V' h => ⟨h, h.c hd0, h.c hd1, h.c hd2, h.c hd3, h.c hk0⟩
      obtain ⟨nb, hnb⟩ : ∃ nb, nb = decide ((⟨k, n, u, b⟩ : Val) ≠ Val.bare ⟨k, n, u, b⟩) := ⟨_, rfl⟩
      have hne : ∀ W, (binOp .neq 48 (.agg #[.int .i64 k, .int .i64 n, .int .u64 u, .string b]) (Val.bare ⟨k, n, u, b⟩).v).run Tryz.prog W = .ok (.bool nb) W := fun W => by rw [hnb]; exact val_ne ⟨k, n, u, b⟩ _ W
      have HNB := Lib.hid hnb
      have HVB := Lib.hid (fun W => vbare_any ⟨k, n, u, b⟩ W)
      clear hnb hd0 hd1 hd2 hd3 hk0
      obtain ⟨ys, hys⟩ : ∃ ys, (Val.bare ⟨k, n, u, b⟩).v = .agg ys := ⟨_, rfl⟩
      rw [hys] at hne HVB
      clear hys
      obtain ⟨mb, hmb⟩ : ∃ mb, mb = mayB ⟨k, n, u, b⟩ := ⟨_, rfl⟩
      rw [← hmb] at HSZ
      have HMB := Lib.hid hmb
      clear hmb
      cases nb
      · refine wp_region_noPanic ?_
        refine wp_region_held_drew (S := (fun V' : World => Bel V V' ∧ V'.cell? ⟨w.heap.size, 0, none⟩ = some (.int .i64 k) ∧ V'.cell? ⟨w.heap.size, 1, none⟩ = some (.int .i64 n) ∧ V'.cell? ⟨w.heap.size, 2, none⟩ = some (.int .u64 u) ∧ V'.cell? ⟨w.heap.size, 3, none⟩ = some (.string b) ∧ V'.cell? ⟨bx, 0, none⟩ = some (.func (.func f) #[] #[]))) (by kernel_rfl) ?_ (fun hHr2_0 => ?_)
        · (try dsimp only); (first | assumption | exact hS _ (Bel.refl V).drew | exact hS _ hB4 | exact hS _ (hB4.then_ hb5))
        refine wpAnyH_take (i := 0) (oi := _) (v := ?vr2_1_0) rfl (by kernel_rfl) (by kernel_rfl) (by kernel_rfl) ?hqr2_1_0 (Or.inl ⟨by kernel_rfl, ?hyr2_1_0⟩) (by assumption) ?restr2_1_0
        case hqr2_1_0 => exact fun _ _ _ h => h
        case hyr2_1_0 => (intro w hSw; (try dsimp only at hSw); go_simp; try with_reducible rfl)
        try simp only [Act.put, List.getElem_toArray, List.getElem_cons_succ, List.getElem_cons_zero, List.setIfInBounds_toArray, List.set_cons_zero, List.set_cons_succ]
        refine wpAnyH_take (i := 1) (oi := _) (v := ?vr2_1_1) rfl (by kernel_rfl) (by kernel_rfl) (by kernel_rfl) ?hqr2_1_1 (Or.inl ⟨by kernel_rfl, ?hyr2_1_1⟩) (by assumption) ?restr2_1_1
        case hqr2_1_1 => exact fun _ _ _ h => h
        case hyr2_1_1 => (intro w hSw; (try dsimp only at hSw); go_simp; try with_reducible rfl)
        try simp only [Act.put, List.getElem_toArray, List.getElem_cons_succ, List.getElem_cons_zero, List.setIfInBounds_toArray, List.set_cons_zero, List.set_cons_succ]
        refine wpAnyH_take (i := 2) (oi := _) (v := ?vr2_1_2) rfl (by kernel_rfl) (by kernel_rfl) (by kernel_rfl) ?hqr2_1_2 (Or.inl ⟨by kernel_rfl, ?hyr2_1_2⟩) (by assumption) ?restr2_1_2
        case hqr2_1_2 => exact fun _ _ _ h => h
        case hyr2_1_2 => (intro w hSw; (try dsimp only at hSw); go_simp; try with_reducible rfl)
        try simp only [Act.put, List.getElem_toArray, List.getElem_cons_succ, List.getElem_cons_zero, List.setIfInBounds_toArray, List.set_cons_zero, List.set_cons_succ]
        refine wpAnyH_take (i := 3) (oi := _) (v := ?vr2_1_3) rfl (by kernel_rfl) (by kernel_rfl) (by kernel_rfl) ?hqr2_1_3 (Or.inl ⟨by kernel_rfl, ?hyr2_1_3⟩) (by assumption) ?restr2_1_3
        case hqr2_1_3 => exact fun _ _ _ h => h
        case hyr2_1_3 => (intro w hSw; (try dsimp only at hSw); go_simp; try with_reducible rfl)
        try simp only [Act.put, List.getElem_toArray, List.getElem_cons_succ, List.getElem_cons_zero, List.setIfInBounds_toArray, List.set_cons_zero, List.set_cons_succ]
        refine wpAnyH_take (i := 4) (oi := _) (v := ?vr2_1_4) rfl (by kernel_rfl) (by kernel_rfl) (by kernel_rfl) ?hqr2_1_4 (Or.inl ⟨by kernel_rfl, ?hyr2_1_4⟩) (by assumption) ?restr2_1_4
        case hqr2_1_4 => exact fun _ _ _ h => h
        case hyr2_1_4 => (intro w hSw; (try dsimp only at hSw); go_simp; try with_reducible rfl)
        try simp only [Act.put, List.getElem_toArray, List.getElem_cons_succ, List.getElem_cons_zero, List.setIfInBounds_toArray, List.set_cons_zero, List.set_cons_succ]
        refine wpAnyH_ready (rs := [5]) (by kernel_rfl) (by simp) ?_
        refine AllReadyH.cons (o := _) rfl (fun K hK => ?_) AllReadyH.nil
        go_simp
        (go_at_call 141; refine (HVB.out _).mono ?_; rintro e w4 ⟨rfl, hb4⟩; have hB4 : Bel V w4 := Bel.then_ (Bel.refl V).drew hb4)
        try (go_wp2_with fail)
        refine hK.out _ _ ?_ (fun hHr2_1 => ?_)
        · (try dsimp only); (first | assumption | exact hS _ (Bel.refl V).drew | exact hS _ hB4 | exact hS _ (hB4.then_ hb5))
        clear hK K hHr2_0
        try simp only [Act.put, List.getElem_toArray, List.getElem_cons_succ, List.getElem_cons_zero, List.setIfInBounds_toArray, List.set_cons_zero, List.set_cons_succ]
        refine wpAnyH_take (i := 6) (oi := _) (v := ?vr2_1_6) rfl (by kernel_rfl) (by kernel_rfl) (by kernel_rfl) ?hqr2_1_6 (Or.inl ⟨by kernel_rfl, ?hyr2_1_6⟩) (by assumption) ?restr2_1_6
        case hqr2_1_6 => exact fun _ _ _ h => h
        case hyr2_1_6 => (intro w hSw; (try dsimp only at hSw); go_simp; try with_reducible rfl)
        try simp only [Act.put, List.getElem_toArray, List.getElem_cons_succ, List.getElem_cons_zero, List.setIfInBounds_toArray, List.set_cons_zero, List.set_cons_succ]
        refine wpAnyH_take (i := 7) (oi := _) (v := ?vr2_1_7) rfl (by kernel_rfl) (by kernel_rfl) (by kernel_rfl) ?hqr2_1_7 (Or.inl ⟨by kernel_rfl, ?hyr2_1_7⟩) (by assumption) ?restr2_1_7
        case hqr2_1_7 => exact fun _ _ _ h => h
        case hyr2_1_7 => (intro w hSw; (try dsimp only at hSw); go_simp; try with_reducible rfl)
        try simp only [Act.put, List.getElem_toArray, List.getElem_cons_succ, List.getElem_cons_zero, List.setIfInBounds_toArray, List.set_cons_zero, List.set_cons_succ]
        refine wpAnyH_take (i := 8) (oi := _) (v := ?vr2_1_8) rfl (by kernel_rfl) (by kernel_rfl) (by kernel_rfl) ?hqr2_1_8 (Or.inl ⟨by kernel_rfl, ?hyr2_1_8⟩) (by assumption) ?restr2_1_8
        case hqr2_1_8 => exact fun _ _ _ h => h
        case hyr2_1_8 => (intro w hSw; (try dsimp only at hSw); go_simp; try with_reducible rfl)
        try simp only [Act.put, List.getElem_toArray, List.getElem_cons_succ, List.getElem_cons_zero, List.setIfInBounds_toArray, List.set_cons_zero, List.set_cons_succ]
        refine wpAnyH_take (i := 9) (oi := _) (v := ?vr2_1_9) rfl (by kernel_rfl) (by kernel_rfl) (by kernel_rfl) ?hqr2_1_9 (Or.inl ⟨by kernel_rfl, ?hyr2_1_9⟩) (by assumption) ?restr2_1_9
        case hqr2_1_9 => exact fun _ _ _ h => h
        case hyr2_1_9 => (intro w hSw; (try dsimp only at hSw); go_simp; try with_reducible rfl)
        try simp only [Act.put, List.getElem_toArray, List.getElem_cons_succ, List.getElem_cons_zero, List.setIfInBounds_toArray, List.set_cons_zero, List.set_cons_succ]
        refine wpAnyH_take (i := 10) (oi := _) (v := ?vr2_1_10) rfl (by kernel_rfl) (by kernel_rfl) (by kernel_rfl) ?hqr2_1_10 (Or.inl ⟨by kernel_rfl, ?hyr2_1_10⟩) (by assumption) ?restr2_1_10
        case hqr2_1_10 => exact fun _ _ _ h => h
        case hyr2_1_10 => (intro w hSw; (try dsimp only at hSw); go_simp; try with_reducible rfl)
        try simp only [Act.put, List.getElem_toArray, List.getElem_cons_succ, List.getElem_cons_zero, List.setIfInBounds_toArray, List.set_cons_zero, List.set_cons_succ]
        refine wpAnyH_take (i := 11) (oi := _) (v := ?vr2_1_11) rfl (by kernel_rfl) (by kernel_rfl) (by kernel_rfl) ?hqr2_1_11 (Or.inl ⟨by kernel_rfl, ?hyr2_1_11⟩) (by assumption) ?restr2_1_11
        case hqr2_1_11 => exact fun _ _ _ h => h
        case hyr2_1_11 => (intro w hSw; (try dsimp only at hSw); go_simp; try with_reducible rfl)
        try simp only [Act.put, List.getElem_toArray, List.getElem_cons_succ, List.getElem_cons_zero, List.setIfInBounds_toArray, List.set_cons_zero, List.set_cons_succ]
        refine wpAnyH_ready (rs := [12]) (by kernel_rfl) (by simp) ?_
        refine AllReadyH.cons (o := _) rfl (fun K hK => ?_) AllReadyH.nil
        go_simp
        (go_at_fn f; refine (HSZ.out _).mono ?_; rintro e w5 ⟨rfl, hb5⟩)
        try (go_wp2_with fail)
        refine hK.out _ _ ?_ (fun hHr2_2 => ?_)
        · (try dsimp only); (first | assumption | exact hS _ (Bel.refl V).drew | exact hS _ hB4 | exact hS _ (hB4.then_ hb5))
        clear hK K hHr2_1
        try simp only [Act.put, List.getElem_toArray, List.getElem_cons_succ, List.getElem_cons_zero, List.setIfInBounds_toArray, List.set_cons_zero, List.set_cons_succ]
        refine wpAnyH_take (i := 13) (oi := _) (v := ?vr2_1_13) rfl (by kernel_rfl) (by kernel_rfl) (by kernel_rfl) ?hqr2_1_13 (Or.inl ⟨by kernel_rfl, ?hyr2_1_13⟩) (by assumption) ?restr2_1_13
        case hqr2_1_13 => exact fun _ _ _ h => h
        case hyr2_1_13 => (intro w hSw; (try dsimp only at hSw); go_simp; try with_reducible rfl)
        try simp only [Act.put, List.getElem_toArray, List.getElem_cons_succ, List.getElem_cons_zero, List.setIfInBounds_toArray, List.set_cons_zero, List.set_cons_succ]
        refine wpAnyH_take (i := 14) (oi := _) (v := ?vr2_1_14) rfl (by kernel_rfl) (by kernel_rfl) (by kernel_rfl) ?hqr2_1_14 (Or.inl ⟨by kernel_rfl, ?hyr2_1_14⟩) (by assumption) ?restr2_1_14
        case hqr2_1_14 => exact fun _ _ _ h => h
        case hyr2_1_14 => (intro w hSw; (try dsimp only at hSw); go_simp; try with_reducible rfl)
        try simp only [Act.put, List.getElem_toArray, List.getElem_cons_succ, List.getElem_cons_zero, List.setIfInBounds_toArray, List.set_cons_zero, List.set_cons_succ]
        refine wpAnyH_take (i := 15) (oi := _) (v := ?vr2_1_15) rfl (by kernel_rfl) (by kernel_rfl) (by kernel_rfl) ?hqr2_1_15 (Or.inl ⟨by kernel_rfl, ?hyr2_1_15⟩) (by assumption) ?restr2_1_15
        case hqr2_1_15 => exact fun _ _ _ h => h
        case hyr2_1_15 => (intro w hSw; (try dsimp only at hSw); go_simp; try with_reducible rfl)
        try simp only [Act.put, List.getElem_toArray, List.getElem_cons_succ, List.getElem_cons_zero, List.setIfInBounds_toArray, List.set_cons_zero, List.set_cons_succ]
        refine wpAnyH_done (by kernel_rfl) ?_ _
        refine NoPanic.normal ?_
        have hd3 := hHr2_2.2.2.2.2.1
        have HB5 := Lib.hid (HB.out.then_ hHr2_2.1)
        clear hHr2_2 hS hB4 hb4 hb5 hne
        cases mb
        · go_wp2
          go_ret
          exact ⟨by rw [HR.out]; unfold checkI; rw [← HMB.out]; simp, HB5.out⟩
        · have hR0 : R = if 200 < b.size then 3 else 0 := by
            rw [HR.out]; unfold checkI; rw [← HMB.out]
            have h1 := of_decide_eq_false HNB.out.symm
            have h2 := HT.out
            rw [if_neg (by dsimp only; intro h; rcases h with h | h | h | h <;> first | omega | exact h1 h | cases h)]
          by_cases hl : 200 < b.size
          · rw [if_pos hl] at hR0
            have hlI : (200 : Int) < b.size := by omega
            go_wp2
            go_ret
            exact ⟨by rw [hR0]; rfl, HB5.out⟩
          · rw [if_neg hl] at hR0
            have hlI : decide ((200 : Int) < b.size) = false := by simp; omega
            go_wp2
            go_ret
            exact ⟨by rw [hR0]; rfl, HB5.out⟩
      · refine wp_region_noPanic ?_
        refine wp_region_held_drew (S := (fun V' : World => Bel V V' ∧ V'.cell? ⟨w.heap.size, 0, none⟩ = some (.int .i64 k) ∧ V'.cell? ⟨w.heap.size, 1, none⟩ = some (.int .i64 n) ∧ V'.cell? ⟨w.heap.size, 2, none⟩ = some (.int .u64 u) ∧ V'.cell? ⟨w.heap.size, 3, none⟩ = some (.string b) ∧ V'.cell? ⟨bx, 0, none⟩ = some (.func (.func f) #[] #[]))) (by kernel_rfl) ?_ (fun hHr3_0 => ?_)
        · (try dsimp only); (first | assumption | exact hS _ (Bel.refl V).drew | exact hS _ hB4)
        refine wpAnyH_take (i := 0) (oi := _) (v := ?vr3_1_0) rfl (by kernel_rfl) (by kernel_rfl) (by kernel_rfl) ?hqr3_1_0 (Or.inl ⟨by kernel_rfl, ?hyr3_1_0⟩) (by assumption) ?restr3_1_0
        case hqr3_1_0 => exact fun _ _ _ h => h
        case hyr3_1_0 => (intro w hSw; (try dsimp only at hSw); go_simp; try with_reducible rfl)
        try simp only [Act.put, List.getElem_toArray, List.getElem_cons_succ, List.getElem_cons_zero, List.setIfInBounds_toArray, List.set_cons_zero, List.set_cons_succ]
        refine wpAnyH_take (i := 1) (oi := _) (v := ?vr3_1_1) rfl (by kernel_rfl) (by kernel_rfl) (by kernel_rfl) ?hqr3_1_1 (Or.inl ⟨by kernel_rfl, ?hyr3_1_1⟩) (by assumption) ?restr3_1_1
        case hqr3_1_1 => exact fun _ _ _ h => h
        case hyr3_1_1 => (intro w hSw; (try dsimp only at hSw); go_simp; try with_reducible rfl)
        try simp only [Act.put, List.getElem_toArray, List.getElem_cons_succ, List.getElem_cons_zero, List.setIfInBounds_toArray, List.set_cons_zero, List.set_cons_succ]
        refine wpAnyH_take (i := 2) (oi := _) (v := ?vr3_1_2) rfl (by kernel_rfl) (by kernel_rfl) (by kernel_rfl) ?hqr3_1_2 (Or.inl ⟨by kernel_rfl, ?hyr3_1_2⟩) (by assumption) ?restr3_1_2
        case hqr3_1_2 => exact fun _ _ _ h => h
        case hyr3_1_2 => (intro w hSw; (try dsimp only at hSw); go_simp; try with_reducible rfl)
        try simp only [Act.put, List.getElem_toArray, List.getElem_cons_succ, List.getElem_cons_zero, List.setIfInBounds_toArray, List.set_cons_zero, List.set_cons_succ]
        refine wpAnyH_take (i := 3) (oi := _) (v := ?vr3_1_3) rfl (by kernel_rfl) (by kernel_rfl) (by kernel_rfl) ?hqr3_1_3 (Or.inl ⟨by kernel_rfl, ?hyr3_1_3⟩) (by assumption) ?restr3_1_3
        case hqr3_1_3 => exact fun _ _ _ h => h
        case hyr3_1_3 => (intro w hSw; (try dsimp only at hSw); go_simp; try with_reducible rfl)
        try simp only [Act.put, List.getElem_toArray, List.getElem_cons_succ, List.getElem_cons_zero, List.setIfInBounds_toArray, List.set_cons_zero, List.set_cons_succ]
        refine wpAnyH_take (i := 4) (oi := _) (v := ?vr3_1_4) rfl (by kernel_rfl) (by kernel_rfl) (by kernel_rfl) ?hqr3_1_4 (Or.inl ⟨by kernel_rfl, ?hyr3_1_4⟩) (by assumption) ?restr3_1_4
        case hqr3_1_4 => exact fun _ _ _ h => h
        case hyr3_1_4 => (intro w hSw; (try dsimp only at hSw); go_simp; try with_reducible rfl)
        try simp only [Act.put, List.getElem_toArray, List.getElem_cons_succ, List.getElem_cons_zero, List.setIfInBounds_toArray, List.set_cons_zero, List.set_cons_succ]
        refine wpAnyH_ready (rs := [5]) (by kernel_rfl) (by simp) ?_
        refine AllReadyH.cons (o := _) rfl (fun K hK => ?_) AllReadyH.nil
        go_simp
        (go_at_call 141; refine (HVB.out _).mono ?_; rintro e w4 ⟨rfl, hb4⟩; have hB4 : Bel V w4 := Bel.then_ (Bel.refl V).drew hb4)
        try (go_wp2_with fail)
        refine hK.out _ _ ?_ (fun hHr3_1 => ?_)
        · (try dsimp only); (first | assumption | exact hS _ (Bel.refl V).drew | exact hS _ hB4)
        clear hK K hHr3_0
        try simp only [Act.put, List.getElem_toArray, List.getElem_cons_succ, List.getElem_cons_zero, List.setIfInBounds_toArray, List.set_cons_zero, List.set_cons_succ]
        refine wpAnyH_take (i := 6) (oi := _) (v := ?vr3_1_6) rfl (by kernel_rfl) (by kernel_rfl) (by kernel_rfl) ?hqr3_1_6 (Or.inl ⟨by kernel_rfl, ?hyr3_1_6⟩) (by assumption) ?restr3_1_6
        case hqr3_1_6 => exact fun _ _ _ h => h
        case hyr3_1_6 => (intro w hSw; (try dsimp only at hSw); go_simp; try with_reducible rfl)
        try simp only [Act.put, List.getElem_toArray, List.getElem_cons_succ, List.getElem_cons_zero, List.setIfInBounds_toArray, List.set_cons_zero, List.set_cons_succ]
        refine wpAnyH_take (i := 7) (oi := _) (v := ?vr3_1_7) rfl (by kernel_rfl) (by kernel_rfl) (by kernel_rfl) ?hqr3_1_7 (Or.inl ⟨by kernel_rfl, ?hyr3_1_7⟩) (by assumption) ?restr3_1_7
        case hqr3_1_7 => exact fun _ _ _ h => h
        case hyr3_1_7 => (intro w hSw; (try dsimp only at hSw); go_simp; try with_reducible rfl)
        try simp only [Act.put, List.getElem_toArray, List.getElem_cons_succ, List.getElem_cons_zero, List.setIfInBounds_toArray, List.set_cons_zero, List.set_cons_succ]
        refine wpAnyH_take (i := 8) (oi := _) (v := ?vr3_1_8) rfl (by kernel_rfl) (by kernel_rfl) (by kernel_rfl) ?hqr3_1_8 (Or.inl ⟨by kernel_rfl, ?hyr3_1_8⟩) (by assumption) ?restr3_1_8
        case hqr3_1_8 => exact fun _ _ _ h => h
        case hyr3_1_8 => (intro w hSw; (try dsimp only at hSw); go_simp; try with_reducible rfl)
        try simp only [Act.put, List.getElem_toArray, List.getElem_cons_succ, List.getElem_cons_zero, List.setIfInBounds_toArray, List.set_cons_zero, List.set_cons_succ]
        refine wpAnyH_take (i := 9) (oi := _) (v := undef) rfl (by kernel_rfl) (by kernel_rfl) (by kernel_rfl) (fun _ _ _ h => h) (Or.inr ⟨by kernel_rfl, rfl⟩) (by assumption) ?restr3_1_9
        try simp only [Act.put, List.getElem_toArray, List.getElem_cons_succ, List.getElem_cons_zero, List.setIfInBounds_toArray, List.set_cons_zero, List.set_cons_succ]
        refine wpAnyH_take (i := 10) (oi := _) (v := undef) rfl (by kernel_rfl) (by kernel_rfl) (by kernel_rfl) (fun _ _ _ h => h) (Or.inr ⟨by kernel_rfl, rfl⟩) (by assumption) ?restr3_1_10
        try simp only [Act.put, List.getElem_toArray, List.getElem_cons_succ, List.getElem_cons_zero, List.setIfInBounds_toArray, List.set_cons_zero, List.set_cons_succ]
        refine wpAnyH_take (i := 11) (oi := _) (v := undef) rfl (by kernel_rfl) (by kernel_rfl) (by kernel_rfl) (fun _ _ _ h => h) (Or.inr ⟨by kernel_rfl, rfl⟩) (by assumption) ?restr3_1_11
        try simp only [Act.put, List.getElem_toArray, List.getElem_cons_succ, List.getElem_cons_zero, List.setIfInBounds_toArray, List.set_cons_zero, List.set_cons_succ]
        refine wpAnyH_take (i := 12) (oi := _) (v := undef) rfl (by kernel_rfl) (by kernel_rfl) (by kernel_rfl) (fun _ _ _ h => h) (Or.inr ⟨by kernel_rfl, rfl⟩) (by assumption) ?restr3_1_12
        try simp only [Act.put, List.getElem_toArray, List.getElem_cons_succ, List.getElem_cons_zero, List.setIfInBounds_toArray, List.set_cons_zero, List.set_cons_succ]
        refine wpAnyH_take (i := 13) (oi := _) (v := undef) rfl (by kernel_rfl) (by kernel_rfl) (by kernel_rfl) (fun _ _ _ h => h) (Or.inr ⟨by kernel_rfl, rfl⟩) (by assumption) ?restr3_1_13
        try simp only [Act.put, List.getElem_toArray, List.getElem_cons_succ, List.getElem_cons_zero, List.setIfInBounds_toArray, List.set_cons_zero, List.set_cons_succ]
        refine wpAnyH_take (i := 14) (oi := _) (v := ?vr3_1_14) rfl (by kernel_rfl) (by kernel_rfl) (by kernel_rfl) ?hqr3_1_14 (Or.inl ⟨by kernel_rfl, ?hyr3_1_14⟩) (by assumption) ?restr3_1_14
        case hqr3_1_14 => exact fun _ _ _ h => h
        case hyr3_1_14 => (intro w hSw; (try dsimp only at hSw); go_simp; try with_reducible rfl)
        try simp only [Act.put, List.getElem_toArray, List.getElem_cons_succ, List.getElem_cons_zero, List.setIfInBounds_toArray, List.set_cons_zero, List.set_cons_succ]
        refine wpAnyH_take (i := 15) (oi := _) (v := ?vr3_1_15) rfl (by kernel_rfl) (by kernel_rfl) (by kernel_rfl) ?hqr3_1_15 (Or.inl ⟨by kernel_rfl, ?hyr3_1_15⟩) (by assumption) ?restr3_1_15
        case hqr3_1_15 => exact fun _ _ _ h => h
        case hyr3_1_15 => (intro w hSw; (try dsimp only at hSw); go_simp; try with_reducible rfl)
        try simp only [Act.put, List.getElem_toArray, List.getElem_cons_succ, List.getElem_cons_zero, List.setIfInBounds_toArray, List.set_cons_zero, List.set_cons_succ]
        refine wpAnyH_done (by kernel_rfl) ?_ _
        refine NoPanic.normal ?_
        have HB5 := Lib.hid (HB.out.then_ hHr3_1.1)
        clear hHr3_1 hS hB4 hb4 hne
        go_wp2
        go_ret
        exact ⟨by rw [HR.out]; unfold checkI; rw [if_pos (.inr (.inr (.inl (of_decide_eq_true HNB.out.symm))))]; rfl, HB5.out⟩
  · have HLO := Lib.hid (fun (b : Nat) (V : World) (hb : V.heap[b]? = some (.map vkMap 5)) => vkLookNo ht hb)
    have HRF : Hid (R = 2) := by show R = 2; rw [HR.out]; unfold checkI; dsimp only; rw [if_pos (by omega)]
    clear ht
    go_enter Tryz.func97, Tryz.ntmps97
    go_wp2
    obtain ⟨w1, hw1⟩ : ∃ w1, w1 = w.alloc (.cells #[.int .i64 k, .int .i64 n, .int .u64 u, .string b] 48) := ⟨_, rfl⟩
    rw [← hw1]
    have hb1 : Bel w w1 := by rw [hw1]; exact (Bel.refl w).alloc _
    have hc0 : w1.cell? ⟨w.heap.size, 0, none⟩ = some (.int .i64 k) := by rw [hw1]; go_simp
    have hc1 : w1.cell? ⟨w.heap.size, 1, none⟩ = some (.int .i64 n) := by rw [hw1]; go_simp
    have hc2 : w1.cell? ⟨w.heap.size, 2, none⟩ = some (.int .u64 u) := by rw [hw1]; go_simp
    have hc3 : w1.cell? ⟨w.heap.size, 3, none⟩ = some (.string b) := by rw [hw1]; go_simp
    clear hw1
    have hS : ∀ V, Bel w1 V → (Bel w1 V ∧ V.cell? ⟨w.heap.size, 0, none⟩ = some (.int .i64 k)) := fun V h => ⟨h, h.c hc0⟩
    apply wp_cut2 (R := fun bm bx V => Bel w1 V ∧ True)
    case h =>
      refine wp_region_noPanic ?_
      refine wp_region_held_drew (S := (fun V : World => Bel w1 V ∧ V.cell? ⟨w.heap.size, 0, none⟩ = some (.int .i64 k))) (by kernel_rfl) ?_ (fun hHr4_0 => ?_)
      · (try dsimp only); (first | assumption | exact hS _ (Bel.refl w1).drew | exact hS _ hB2 | exact hS _ (Bel.alloc hB2 _) | exact hS _ (Bel.alloc (Bel.refl w1).drew _) | exact hS _ (Bel.setCell (Bel.setCell hB2 (Nat.le_refl _) _) (Nat.le_refl _) _))
      refine wpAnyH_take (i := 1) (oi := _) (v := ?vr4_1_1) rfl (by kernel_rfl) (by kernel_rfl) (by kernel_rfl) ?hqr4_1_1 (Or.inl ⟨by kernel_rfl, ?hyr4_1_1⟩) (by assumption) ?restr4_1_1
      case hqr4_1_1 => exact fun _ _ _ h => h
      case hyr4_1_1 => (intro w hSw; (try dsimp only at hSw); go_simp; try with_reducible rfl)
      try simp only [Act.put, List.getElem_toArray, List.getElem_cons_succ, List.getElem_cons_zero, List.setIfInBounds_toArray, List.set_cons_zero, List.set_cons_succ]
      refine wpAnyH_take (i := 2) (oi := _) (v := ?vr4_1_2) rfl (by kernel_rfl) (by kernel_rfl) (by kernel_rfl) ?hqr4_1_2 (Or.inl ⟨by kernel_rfl, ?hyr4_1_2⟩) (by assumption) ?restr4_1_2
      case hqr4_1_2 => exact fun _ _ _ h => h
      case hyr4_1_2 => (intro w hSw; (try dsimp only at hSw); go_simp; try with_reducible rfl)
      try simp only [Act.put, List.getElem_toArray, List.getElem_cons_succ, List.getElem_cons_zero, List.setIfInBounds_toArray, List.set_cons_zero, List.set_cons_succ]
      refine wpAnyH_ready (rs := [0, 7]) (by kernel_rfl) (by simp) ?_
      refine AllReadyH.cons (o := _) rfl (fun K hK => ?_) (AllReadyH.cons (o := _) rfl (fun K hK => ?_) (AllReadyH.nil))
      · go_simp
        (go_at_call 140; refine (vkinds_any _).mono ?_; rintro e w2 ⟨bm, rfl, hm, hb2⟩; have hB2 : Bel w1 w2 := Bel.then_ (Bel.refl w1).drew hb2)
        try (go_wp2_with fail)
        refine hK.out _ _ ?_ (fun hHr4_1 => ?_)
        · (try dsimp only); (first | assumption | exact hS _ (Bel.refl w1).drew | exact hS _ hB2 | exact hS _ (Bel.alloc hB2 _) | exact hS _ (Bel.alloc (Bel.refl w1).drew _) | exact hS _ (Bel.setCell (Bel.setCell hB2 (Nat.le_refl _) _) (Nat.le_refl _) _))
        clear hK K hHr4_0
        try simp only [Act.put, List.getElem_toArray, List.getElem_cons_succ, List.getElem_cons_zero, List.setIfInBounds_toArray, List.set_cons_zero, List.set_cons_succ]
        refine wpAnyH_ready (rs := [3, 7]) (by kernel_rfl) (by simp) ?_
        refine AllReadyH.cons (o := _) rfl (fun K hK => ?_) (AllReadyH.cons (o := _) rfl (fun K hK => ?_) (AllReadyH.nil))
        · go_simp
          ((have hlk := HLO.out bm _ hm); go_simp)
          refine hK.out _ _ ?_ (fun hHr4_2 => ?_)
          · (try dsimp only); (first | assumption | exact hS _ (Bel.refl w1).drew | exact hS _ hB2 | exact hS _ (Bel.alloc hB2 _) | exact hS _ (Bel.alloc (Bel.refl w1).drew _) | exact hS _ (Bel.setCell (Bel.setCell hB2 (Nat.le_refl _) _) (Nat.le_refl _) _))
          clear hK K hHr4_1
          try simp only [Act.put, List.getElem_toArray, List.getElem_cons_succ, List.getElem_cons_zero, List.setIfInBounds_toArray, List.set_cons_zero, List.set_cons_succ]
          refine wpAnyH_take (i := 4) (oi := _) (v := ?vr4_3_4) rfl (by kernel_rfl) (by kernel_rfl) (by kernel_rfl) ?hqr4_3_4 (Or.inl ⟨by kernel_rfl, ?hyr4_3_4⟩) (by assumption) ?restr4_3_4
          case hqr4_3_4 => exact fun _ _ _ h => h
          case hyr4_3_4 => (intro w hSw; (try dsimp only at hSw); go_simp; try with_reducible rfl)
          try simp only [Act.put, List.getElem_toArray, List.getElem_cons_succ, List.getElem_cons_zero, List.setIfInBounds_toArray, List.set_cons_zero, List.set_cons_succ]
          refine wpAnyH_take (i := 5) (oi := _) (v := ?vr4_3_5) rfl (by kernel_rfl) (by kernel_rfl) (by kernel_rfl) ?hqr4_3_5 (Or.inl ⟨by kernel_rfl, ?hyr4_3_5⟩) (by assumption) ?restr4_3_5
          case hqr4_3_5 => exact fun _ _ _ h => h
          case hyr4_3_5 => (intro w hSw; (try dsimp only at hSw); go_simp; try with_reducible rfl)
          try simp only [Act.put, List.getElem_toArray, List.getElem_cons_succ, List.getElem_cons_zero, List.setIfInBounds_toArray, List.set_cons_zero, List.set_cons_succ]
          refine wpAnyH_take (i := 6) (oi := _) (v := ?vr4_3_6) rfl (by kernel_rfl) (by kernel_rfl) (by kernel_rfl) ?hqr4_3_6 (Or.inl ⟨by kernel_rfl, ?hyr4_3_6⟩) (by assumption) ?restr4_3_6
          case hqr4_3_6 => exact fun _ _ _ h => h
          case hyr4_3_6 => (intro w hSw; (try dsimp only at hSw); go_simp; try with_reducible rfl)
          try simp only [Act.put, List.getElem_toArray, List.getElem_cons_succ, List.getElem_cons_zero, List.setIfInBounds_toArray, List.set_cons_zero, List.set_cons_succ]
          refine wpAnyH_ready (rs := [7]) (by kernel_rfl) (by simp) ?_
          refine AllReadyH.cons (o := _) rfl (fun K hK => ?_) AllReadyH.nil
          go_simp
          refine hK.out _ _ ?_ (fun hHr4_3 => ?_)
          · (try dsimp only); (first | assumption | exact hS _ (Bel.refl w1).drew | exact hS _ hB2 | exact hS _ (Bel.alloc hB2 _) | exact hS _ (Bel.alloc (Bel.refl w1).drew _) | exact hS _ (Bel.setCell (Bel.setCell hB2 (Nat.le_refl _) _) (Nat.le_refl _) _))
          clear hK K hHr4_2
          try simp only [Act.put, List.getElem_toArray, List.getElem_cons_succ, List.getElem_cons_zero, List.setIfInBounds_toArray, List.set_cons_zero, List.set_cons_succ]
          refine wpAnyH_ready (rs := [8]) (by kernel_rfl) (by simp) ?_
          refine AllReadyH.cons (o := _) rfl (fun K hK => ?_) AllReadyH.nil
          go_simp
          refine hK.out _ _ ?_ (fun hHr4_4 => ?_)
          · (try dsimp only); (first | assumption | exact hS _ (Bel.refl w1).drew | exact hS _ hB2 | exact hS _ (Bel.alloc hB2 _) | exact hS _ (Bel.alloc (Bel.refl w1).drew _) | exact hS _ (Bel.setCell (Bel.setCell hB2 (Nat.le_refl _) _) (Nat.le_refl _) _))
          clear hK K hHr4_3
          try simp only [Act.put, List.getElem_toArray, List.getElem_cons_succ, List.getElem_cons_zero, List.setIfInBounds_toArray, List.set_cons_zero, List.set_cons_succ]
          refine wpAnyH_take (i := 9) (oi := _) (v := ?vr4_3_9) rfl (by kernel_rfl) (by kernel_rfl) (by kernel_rfl) ?hqr4_3_9 (Or.inl ⟨by kernel_rfl, ?hyr4_3_9⟩) (by assumption) ?restr4_3_9
          case hqr4_3_9 => exact fun _ _ _ h => h
          case hyr4_3_9 => (intro w hSw; (try dsimp only at hSw); go_simp; try with_reducible rfl)
          try simp only [Act.put, List.getElem_toArray, List.getElem_cons_succ, List.getElem_cons_zero, List.setIfInBounds_toArray, List.set_cons_zero, List.set_cons_succ]
          refine wpAnyH_done (by kernel_rfl) ?_ _
          refine NoPanic.normal ?_
          (refine ⟨bm, w2.heap.size, rfl, ?_, hHr4_4.1, trivial⟩; generalize w2.heap.size = bx; exact rfl)
        · go_simp
          refine hK.out _ _ ?_ (fun hHr4_2 => ?_)
          · (try dsimp only); (first | assumption | exact hS _ (Bel.refl w1).drew | exact hS _ hB2 | exact hS _ (Bel.alloc hB2 _) | exact hS _ (Bel.alloc (Bel.refl w1).drew _) | exact hS _ (Bel.setCell (Bel.setCell hB2 (Nat.le_refl _) _) (Nat.le_refl _) _))
          clear hK K hHr4_1
          try simp only [Act.put, List.getElem_toArray, List.getElem_cons_succ, List.getElem_cons_zero, List.setIfInBounds_toArray, List.set_cons_zero, List.set_cons_succ]
          refine wpAnyH_ready (rs := [3]) (by kernel_rfl) (by simp) ?_
          refine AllReadyH.cons (o := _) rfl (fun K hK => ?_) AllReadyH.nil
          go_simp
          ((have hlk := HLO.out bm _ (((Bel.refl w2).alloc (.cells #[.nilFunc, .nilFunc] 204)).deferred hm)); go_simp)
          refine hK.out _ _ ?_ (fun hHr4_3 => ?_)
          · (try dsimp only); (first | assumption | exact hS _ (Bel.refl w1).drew | exact hS _ hB2 | exact hS _ (Bel.alloc hB2 _) | exact hS _ (Bel.alloc (Bel.refl w1).drew _) | exact hS _ (Bel.setCell (Bel.setCell hB2 (Nat.le_refl _) _) (Nat.le_refl _) _))
          clear hK K hHr4_2
          try simp only [Act.put, List.getElem_toArray, List.getElem_cons_succ, List.getElem_cons_zero, List.setIfInBounds_toArray, List.set_cons_zero, List.set_cons_succ]
          refine wpAnyH_take (i := 4) (oi := _) (v := ?vr4_4_4) rfl (by kernel_rfl) (by kernel_rfl) (by kernel_rfl) ?hqr4_4_4 (Or.inl ⟨by kernel_rfl, ?hyr4_4_4⟩) (by assumption) ?restr4_4_4
          case hqr4_4_4 => exact fun _ _ _ h => h
          case hyr4_4_4 => (intro w hSw; (try dsimp only at hSw); go_simp; try with_reducible rfl)
          try simp only [Act.put, List.getElem_toArray, List.getElem_cons_succ, List.getElem_cons_zero, List.setIfInBounds_toArray, List.set_cons_zero, List.set_cons_succ]
          refine wpAnyH_take (i := 5) (oi := _) (v := ?vr4_4_5) rfl (by kernel_rfl) (by kernel_rfl) (by kernel_rfl) ?hqr4_4_5 (Or.inl ⟨by kernel_rfl, ?hyr4_4_5⟩) (by assumption) ?restr4_4_5
          case hqr4_4_5 => exact fun _ _ _ h => h
          case hyr4_4_5 => (intro w hSw; (try dsimp only at hSw); go_simp; try with_reducible rfl)
          try simp only [Act.put, List.getElem_toArray, List.getElem_cons_succ, List.getElem_cons_zero, List.setIfInBounds_toArray, List.set_cons_zero, List.set_cons_succ]
          refine wpAnyH_take (i := 6) (oi := _) (v := ?vr4_4_6) rfl (by kernel_rfl) (by kernel_rfl) (by kernel_rfl) ?hqr4_4_6 (Or.inl ⟨by kernel_rfl, ?hyr4_4_6⟩) (by assumption) ?restr4_4_6
          case hqr4_4_6 => exact fun _ _ _ h => h
          case hyr4_4_6 => (intro w hSw; (try dsimp only at hSw); go_simp; try with_reducible rfl)
          try simp only [Act.put, List.getElem_toArray, List.getElem_cons_succ, List.getElem_cons_zero, List.setIfInBounds_toArray, List.set_cons_zero, List.set_cons_succ]
          refine wpAnyH_ready (rs := [8]) (by kernel_rfl) (by simp) ?_
          refine AllReadyH.cons (o := _) rfl (fun K hK => ?_) AllReadyH.nil
          go_simp
          refine hK.out _ _ ?_ (fun hHr4_4 => ?_)
          · (try dsimp only); (first | assumption | exact hS _ (Bel.refl w1).drew | exact hS _ hB2 | exact hS _ (Bel.alloc hB2 _) | exact hS _ (Bel.alloc (Bel.refl w1).drew _) | exact hS _ (Bel.setCell (Bel.setCell hB2 (Nat.le_refl _) _) (Nat.le_refl _) _))
          clear hK K hHr4_3
          try simp only [Act.put, List.getElem_toArray, List.getElem_cons_succ, List.getElem_cons_zero, List.setIfInBounds_toArray, List.set_cons_zero, List.set_cons_succ]
          refine wpAnyH_take (i := 9) (oi := _) (v := ?vr4_4_9) rfl (by kernel_rfl) (by kernel_rfl) (by kernel_rfl) ?hqr4_4_9 (Or.inl ⟨by kernel_rfl, ?hyr4_4_9⟩) (by assumption) ?restr4_4_9
          case hqr4_4_9 => exact fun _ _ _ h => h
          case hyr4_4_9 => (intro w hSw; (try dsimp only at hSw); go_simp; try with_reducible rfl)
          try simp only [Act.put, List.getElem_toArray, List.getElem_cons_succ, List.getElem_cons_zero, List.setIfInBounds_toArray, List.set_cons_zero, List.set_cons_succ]
          refine wpAnyH_done (by kernel_rfl) ?_ _
          refine NoPanic.normal ?_
          (refine ⟨bm, w2.heap.size, rfl, ?_, hHr4_4.1, trivial⟩; generalize w2.heap.size = bx; exact rfl)
      · go_simp
        refine hK.out _ _ ?_ (fun hHr4_1 => ?_)
        · (try dsimp only); (first | assumption | exact hS _ (Bel.refl w1).drew | exact hS _ hB2 | exact hS _ (Bel.alloc hB2 _) | exact hS _ (Bel.alloc (Bel.refl w1).drew _) | exact hS _ (Bel.setCell (Bel.setCell hB2 (Nat.le_refl _) _) (Nat.le_refl _) _))
        clear hK K hHr4_0
        try simp only [Act.put, List.getElem_toArray, List.getElem_cons_succ, List.getElem_cons_zero, List.setIfInBounds_toArray, List.set_cons_zero, List.set_cons_succ]
        refine wpAnyH_ready (rs := [0]) (by kernel_rfl) (by simp) ?_
        refine AllReadyH.cons (o := _) rfl (fun K hK => ?_) AllReadyH.nil
        go_simp
        (go_at_call 140; refine (vkinds_any _).mono ?_; rintro e w2 ⟨bm, rfl, hm, hb2⟩; have hB2 : Bel w1 w2 := Bel.then_ (Bel.alloc (Bel.refl w1).drew _) hb2; have z0 : w2.cell? ⟨w1.heap.size, 0, none⟩ = some .nilFunc := hb2.c (by go_simp); have z1 : w2.cell? ⟨w1.heap.size, 1, none⟩ = some .nilFunc := hb2.c (by go_simp); have y0 : w2.frozen? ⟨w1.heap.size, 0, none⟩ = false := (Below.frozen hb2 (by simp)).trans (by go_simp); have y1 : w2.frozen? ⟨w1.heap.size, 1, none⟩ = false := (Below.frozen hb2 (by simp)).trans (by go_simp))
        try (go_wp2_with fail)
        refine hK.out _ _ ?_ (fun hHr4_2 => ?_)
        · (try dsimp only); (first | assumption | exact hS _ (Bel.refl w1).drew | exact hS _ hB2 | exact hS _ (Bel.alloc hB2 _) | exact hS _ (Bel.alloc (Bel.refl w1).drew _) | exact hS _ (Bel.setCell (Bel.setCell hB2 (Nat.le_refl _) _) (Nat.le_refl _) _))
        clear hK K hHr4_1
        try simp only [Act.put, List.getElem_toArray, List.getElem_cons_succ, List.getElem_cons_zero, List.setIfInBounds_toArray, List.set_cons_zero, List.set_cons_succ]
        refine wpAnyH_ready (rs := [3]) (by kernel_rfl) (by simp) ?_
        refine AllReadyH.cons (o := _) rfl (fun K hK => ?_) AllReadyH.nil
        go_simp
        ((have hlk := HLO.out bm _ hm); go_simp)
        refine hK.out _ _ ?_ (fun hHr4_3 => ?_)
        · (try dsimp only); (first | assumption | exact hS _ (Bel.refl w1).drew | exact hS _ hB2 | exact hS _ (Bel.alloc hB2 _) | exact hS _ (Bel.alloc (Bel.refl w1).drew _) | exact hS _ (Bel.setCell (Bel.setCell hB2 (Nat.le_refl _) _) (Nat.le_refl _) _))
        clear hK K hHr4_2
        try simp only [Act.put, List.getElem_toArray, List.getElem_cons_succ, List.getElem_cons_zero, List.setIfInBounds_toArray, List.set_cons_zero, List.set_cons_succ]
        refine wpAnyH_take (i := 4) (oi := _) (v := ?vr4_5_4) rfl (by kernel_rfl) (by kernel_rfl) (by kernel_rfl) ?hqr4_5_4 (Or.inl ⟨by kernel_rfl, ?hyr4_5_4⟩) (by assumption) ?restr4_5_4
        case hqr4_5_4 => exact fun _ _ _ h => h
        case hyr4_5_4 => (intro w hSw; (try dsimp only at hSw); go_simp; try with_reducible rfl)
        try simp only [Act.put, List.getElem_toArray, List.getElem_cons_succ, List.getElem_cons_zero, List.setIfInBounds_toArray, List.set_cons_zero, List.set_cons_succ]
        refine wpAnyH_take (i := 5) (oi := _) (v := ?vr4_5_5) rfl (by kernel_rfl) (by kernel_rfl) (by kernel_rfl) ?hqr4_5_5 (Or.inl ⟨by kernel_rfl, ?hyr4_5_5⟩) (by assumption) ?restr4_5_5
        case hqr4_5_5 => exact fun _ _ _ h => h
        case hyr4_5_5 => (intro w hSw; (try dsimp only at hSw); go_simp; try with_reducible rfl)
        try simp only [Act.put, List.getElem_toArray, List.getElem_cons_succ, List.getElem_cons_zero, List.setIfInBounds_toArray, List.set_cons_zero, List.set_cons_succ]
        refine wpAnyH_take (i := 6) (oi := _) (v := ?vr4_5_6) rfl (by kernel_rfl) (by kernel_rfl) (by kernel_rfl) ?hqr4_5_6 (Or.inl ⟨by kernel_rfl, ?hyr4_5_6⟩) (by assumption) ?restr4_5_6
        case hqr4_5_6 => exact fun _ _ _ h => h
        case hyr4_5_6 => (intro w hSw; (try dsimp only at hSw); go_simp; try with_reducible rfl)
        try simp only [Act.put, List.getElem_toArray, List.getElem_cons_succ, List.getElem_cons_zero, List.setIfInBounds_toArray, List.set_cons_zero, List.set_cons_succ]
        refine wpAnyH_ready (rs := [8]) (by kernel_rfl) (by simp) ?_
        refine AllReadyH.cons (o := _) rfl (fun K hK => ?_) AllReadyH.nil
        go_simp
        refine hK.out _ _ ?_ (fun hHr4_4 => ?_)
        · (try dsimp only); (first | assumption | exact hS _ (Bel.refl w1).drew | exact hS _ hB2 | exact hS _ (Bel.alloc hB2 _) | exact hS _ (Bel.alloc (Bel.refl w1).drew _) | exact hS _ (Bel.setCell (Bel.setCell hB2 (Nat.le_refl _) _) (Nat.le_refl _) _))
        clear hK K hHr4_3
        try simp only [Act.put, List.getElem_toArray, List.getElem_cons_succ, List.getElem_cons_zero, List.setIfInBounds_toArray, List.set_cons_zero, List.set_cons_succ]
        refine wpAnyH_take (i := 9) (oi := _) (v := ?vr4_5_9) rfl (by kernel_rfl) (by kernel_rfl) (by kernel_rfl) ?hqr4_5_9 (Or.inl ⟨by kernel_rfl, ?hyr4_5_9⟩) (by assumption) ?restr4_5_9
        case hqr4_5_9 => exact fun _ _ _ h => h
        case hyr4_5_9 => (intro w hSw; (try dsimp only at hSw); go_simp; try with_reducible rfl)
        try simp only [Act.put, List.getElem_toArray, List.getElem_cons_succ, List.getElem_cons_zero, List.setIfInBounds_toArray, List.set_cons_zero, List.set_cons_succ]
        refine wpAnyH_done (by kernel_rfl) ?_ _
        refine NoPanic.normal ?_
        (refine ⟨bm, w1.heap.size, rfl, ?_, hHr4_4.1, trivial⟩; generalize w1.heap.size = bx; exact rfl)
    case k =>
      rintro bm bx V ⟨hb, -⟩
      have HB := Lib.hid (hb1.then_ hb)
      have hd0 := hb.c hc0
      clear hS hb1 hb hc0 hc1 hc2 hc3
      go_wp2
      have hS : ∀ V', Bel V V' → Bel V V' := fun V' h => h
      refine wp_region_noPanic ?_
      refine wp_region_held_drew (S := (fun V' : World => Bel V V')) (by kernel_rfl) ?_ (fun hHr5_0 => ?_)
      · (try dsimp only); (first | assumption | exact hS _ (Bel.refl V).drew)
      refine wpAnyH_take (i := 0) (oi := _) (v := ?vr5_1_0) rfl (by kernel_rfl) (by kernel_rfl) (by kernel_rfl) ?hqr5_1_0 (Or.inl ⟨by kernel_rfl, ?hyr5_1_0⟩) (by assumption) ?restr5_1_0
      case hqr5_1_0 => exact fun _ _ _ h => h
      case hyr5_1_0 => (intro w hSw; (try dsimp only at hSw); go_simp; try with_reducible rfl)
      try simp only [Act.put, List.getElem_toArray, List.getElem_cons_succ, List.getElem_cons_zero, List.setIfInBounds_toArray, List.set_cons_zero, List.set_cons_succ]
      refine wpAnyH_take (i := 1) (oi := _) (v := ?vr5_1_1) rfl (by kernel_rfl) (by kernel_rfl) (by kernel_rfl) ?hqr5_1_1 (Or.inl ⟨by kernel_rfl, ?hyr5_1_1⟩) (by assumption) ?restr5_1_1
      case hqr5_1_1 => exact fun _ _ _ h => h
      case hyr5_1_1 => (intro w hSw; (try dsimp only at hSw); go_simp; try with_reducible rfl)
      try simp only [Act.put, List.getElem_toArray, List.getElem_cons_succ, List.getElem_cons_zero, List.setIfInBounds_toArray, List.set_cons_zero, List.set_cons_succ]
      refine wpAnyH_take (i := 2) (oi := _) (v := ?vr5_1_2) rfl (by kernel_rfl) (by kernel_rfl) (by kernel_rfl) ?hqr5_1_2 (Or.inl ⟨by kernel_rfl, ?hyr5_1_2⟩) (by assumption) ?restr5_1_2
      case hqr5_1_2 => exact fun _ _ _ h => h
      case hyr5_1_2 => (intro w hSw; (try dsimp only at hSw); go_simp; try with_reducible rfl)
      try simp only [Act.put, List.getElem_toArray, List.getElem_cons_succ, List.getElem_cons_zero, List.setIfInBounds_toArray, List.set_cons_zero, List.set_cons_succ]
      refine wpAnyH_take (i := 3) (oi := _) (v := undef) rfl (by kernel_rfl) (by kernel_rfl) (by kernel_rfl) (fun _ _ _ h => h) (Or.inr ⟨by kernel_rfl, rfl⟩) (by assumption) ?restr5_1_3
      try simp only [Act.put, List.getElem_toArray, List.getElem_cons_succ, List.getElem_cons_zero, List.setIfInBounds_toArray, List.set_cons_zero, List.set_cons_succ]
      refine wpAnyH_take (i := 4) (oi := _) (v := undef) rfl (by kernel_rfl) (by kernel_rfl) (by kernel_rfl) (fun _ _ _ h => h) (Or.inr ⟨by kernel_rfl, rfl⟩) (by assumption) ?restr5_1_4
      try simp only [Act.put, List.getElem_toArray, List.getElem_cons_succ, List.getElem_cons_zero, List.setIfInBounds_toArray, List.set_cons_zero, List.set_cons_succ]
      refine wpAnyH_take (i := 5) (oi := _) (v := undef) rfl (by kernel_rfl) (by kernel_rfl) (by kernel_rfl) (fun _ _ _ h => h) (Or.inr ⟨by kernel_rfl, rfl⟩) (by assumption) ?restr5_1_5
      try simp only [Act.put, List.getElem_toArray, List.getElem_cons_succ, List.getElem_cons_zero, List.setIfInBounds_toArray, List.set_cons_zero, List.set_cons_succ]
      refine wpAnyH_take (i := 6) (oi := _) (v := undef) rfl (by kernel_rfl) (by kernel_rfl) (by kernel_rfl) (fun _ _ _ h => h) (Or.inr ⟨by kernel_rfl, rfl⟩) (by assumption) ?restr5_1_6
      try simp only [Act.put, List.getElem_toArray, List.getElem_cons_succ, List.getElem_cons_zero, List.setIfInBounds_toArray, List.set_cons_zero, List.set_cons_succ]
      refine wpAnyH_take (i := 7) (oi := _) (v := ?vr5_1_7) rfl (by kernel_rfl) (by kernel_rfl) (by kernel_rfl) ?hqr5_1_7 (Or.inl ⟨by kernel_rfl, ?hyr5_1_7⟩) (by assumption) ?restr5_1_7
      case hqr5_1_7 => exact fun _ _ _ h => h
      case hyr5_1_7 => (intro w hSw; (try dsimp only at hSw); go_simp; try with_reducible rfl)
      try simp only [Act.put, List.getElem_toArray, List.getElem_cons_succ, List.getElem_cons_zero, List.setIfInBounds_toArray, List.set_cons_zero, List.set_cons_succ]
      refine wpAnyH_take (i := 8) (oi := _) (v := ?vr5_1_8) rfl (by kernel_rfl) (by kernel_rfl) (by kernel_rfl) ?hqr5_1_8 (Or.inl ⟨by kernel_rfl, ?hyr5_1_8⟩) (by assumption) ?restr5_1_8
      case hqr5_1_8 => exact fun _ _ _ h => h
      case hyr5_1_8 => (intro w hSw; (try dsimp only at hSw); go_simp; try with_reducible rfl)
      try simp only [Act.put, List.getElem_toArray, List.getElem_cons_succ, List.getElem_cons_zero, List.setIfInBounds_toArray, List.set_cons_zero, List.set_cons_succ]
      refine wpAnyH_take (i := 9) (oi := _) (v := undef) rfl (by kernel_rfl) (by kernel_rfl) (by kernel_rfl) (fun _ _ _ h => h) (Or.inr ⟨by kernel_rfl, rfl⟩) (by assumption) ?restr5_1_9
      try simp only [Act.put, List.getElem_toArray, List.getElem_cons_succ, List.getElem_cons_zero, List.setIfInBounds_toArray, List.set_cons_zero, List.set_cons_succ]
      refine wpAnyH_take (i := 10) (oi := _) (v := undef) rfl (by kernel_rfl) (by kernel_rfl) (by kernel_rfl) (fun _ _ _ h => h) (Or.inr ⟨by kernel_rfl, rfl⟩) (by assumption) ?restr5_1_10
      try simp only [Act.put, List.getElem_toArray, List.getElem_cons_succ, List.getElem_cons_zero, List.setIfInBounds_toArray, List.set_cons_zero, List.set_cons_succ]
      refine wpAnyH_take (i := 11) (oi := _) (v := undef) rfl (by kernel_rfl) (by kernel_rfl) (by kernel_rfl) (fun _ _ _ h => h) (Or.inr ⟨by kernel_rfl, rfl⟩) (by assumption) ?restr5_1_11
      try simp only [Act.put, List.getElem_toArray, List.getElem_cons_succ, List.getElem_cons_zero, List.setIfInBounds_toArray, List.set_cons_zero, List.set_cons_succ]
      refine wpAnyH_take (i := 12) (oi := _) (v := undef) rfl (by kernel_rfl) (by kernel_rfl) (by kernel_rfl) (fun _ _ _ h => h) (Or.inr ⟨by kernel_rfl, rfl⟩) (by assumption) ?restr5_1_12
      try simp only [Act.put, List.getElem_toArray, List.getElem_cons_succ, List.getElem_cons_zero, List.setIfInBounds_toArray, List.set_cons_zero, List.set_cons_succ]
      refine wpAnyH_take (i := 13) (oi := _) (v := undef) rfl (by kernel_rfl) (by kernel_rfl) (by kernel_rfl) (fun _ _ _ h => h) (Or.inr ⟨by kernel_rfl, rfl⟩) (by assumption) ?restr5_1_13
      try simp only [Act.put, List.getElem_toArray, List.getElem_cons_succ, List.getElem_cons_zero, List.setIfInBounds_toArray, List.set_cons_zero, List.set_cons_succ]
      refine wpAnyH_take (i := 14) (oi := _) (v := ?vr5_1_14) rfl (by kernel_rfl) (by kernel_rfl) (by kernel_rfl) ?hqr5_1_14 (Or.inl ⟨by kernel_rfl, ?hyr5_1_14⟩) (by assumption) ?restr5_1_14
      case hqr5_1_14 => exact fun _ _ _ h => h
      case hyr5_1_14 => (intro w hSw; (try dsimp only at hSw); go_simp; try with_reducible rfl)
      try simp only [Act.put, List.getElem_toArray, List.getElem_cons_succ, List.getElem_cons_zero, List.setIfInBounds_toArray, List.set_cons_zero, List.set_cons_succ]
      refine wpAnyH_take (i := 15) (oi := _) (v := ?vr5_1_15) rfl (by kernel_rfl) (by kernel_rfl) (by kernel_rfl) ?hqr5_1_15 (Or.inl ⟨by kernel_rfl, ?hyr5_1_15⟩) (by assumption) ?restr5_1_15
      case hqr5_1_15 => exact fun _ _ _ h => h
      case hyr5_1_15 => (intro w hSw; (try dsimp only at hSw); go_simp; try with_reducible rfl)
      try simp only [Act.put, List.getElem_toArray, List.getElem_cons_succ, List.getElem_cons_zero, List.setIfInBounds_toArray, List.set_cons_zero, List.set_cons_succ]
      refine wpAnyH_done (by kernel_rfl) ?_ _
      refine NoPanic.normal ?_
      go_wp2
      go_ret
      exact ⟨by rw [HRF.out]; rfl, HB.out.drew⟩
end Go.Proofs.YtkklmflclmgjeaaGreatDoor

/-
  errors.As at a schema's fault, and the schema's number of an error.
-/
set_option linter.unusedVariables false
set_option linter.unusedSimpArgs false
set_option linter.unusedVariables false
set_option linter.unusedSimpArgs false
namespace Go.Proofs.YtkklmflclmgjeaaGreatDoor
open Go.RowKit Go.Extern.Stop Go.Stop Go.Extern

/-- A fault lies in block p: its name, and its number. -/
def SFaultAt (w : World) (p : Nat) (k : Int) : Prop := ∃ nm, w.heap[p]? = some (.cells #[.string nm, .iface 32 (.int .i64 k)] 151 (0, 0))
theorem SFaultAt.bel {w w' : World} {p : Nat} {k : Int} (h : SFaultAt w p k) (hb : Bel w w') : SFaultAt w' p k := by obtain ⟨nm, h⟩ := h; exact ⟨nm, hb.deferred h⟩
theorem asTypeOfF (v : Value) (w : World) : (ReflectliteType.typeOf #[.iface 149 v]).run Tryz.prog w = .ok (.iface 218 (.agg #[.pointer (some ⟨4, 149, none⟩)])) w := by kernel_rfl
theorem asAssignF (w : World) : (ReflectliteType.relation "AssignableTo" ReflectliteType.assignableTo #[.agg #[.pointer (some ⟨4, 149, none⟩)], .iface 218 (.agg #[.pointer (some ⟨4, 32, none⟩)])]).run Tryz.prog w = .ok (.bool false) w := by kernel_rfl
theorem asLacksAs (v : Value) (xT : TypeId) (w : World) : (Instr.typeAssert (.iface 149 v) xT 222 true).run Tryz.prog w = .ok (.tuple #[.nilIface, .bool false]) w := run_typeAssert_lacksB Tryz.underlying222 (by kernel_rfl) (by kernel_rfl) v xT w
theorem asHasUnwrap (v : Value) (xT : TypeId) (w : World) : (Instr.typeAssert (.iface 149 v) xT 225 true).run Tryz.prog w = .ok (.tuple #[.iface 149 v, .bool true]) w := run_typeAssert_hasB Tryz.underlying225 (by kernel_rfl) v xT w
theorem asMUnwrap (p : Addr) (w : World) : (Go.method 390 149 (.pointer (some p)) "Unwrap").run Tryz.prog w = .ok (216, .pointer (some p)) w := by kernel_rfl
set_option maxHeartbeats 1000000 in
theorem asIn_sfault (p : Nat) (k : Int) (t b : Addr) (x old : Value) (w : World) (hp : SFaultAt w p k) (hb : w.cell? b = some (.pointer (some t))) (ht : w.cell? t = some old) (hf : w.frozen? t = false) :
    Calls Tryz.prog 136 #[.iface 149 (.pointer (some ⟨p, 0, none⟩)), x, .agg #[.pointer (some ⟨4, 126, none⟩), .pointer (some b), .int .u64 150], .iface 218 (.agg #[.pointer (some ⟨4, 32, none⟩)])] w (AsPost t k w) := by
  have hbl : b.block < w.heap.size := World.block_lt_of_cell? (w := w) (a := b) hb
  have htl : t.block < w.heap.size := World.block_lt_of_cell? (w := w) (a := t) ht
  obtain ⟨fl, hp⟩ := hp
  have hpl := (Array.getElem?_eq_some_iff.1 hp).1
  have g1 := asTypeOfF
  have g2 := asAssignF
  have g3 := asLacksAs
  have g4 := asHasUnwrap
  have g5 := asMUnwrap
  have hwhy : (w.alloc (.cells #[.pointer (some ⟨4, 126, none⟩), .pointer (some b), .int .u64 150] 189)).cell? ⟨p, 1, none⟩ = some (.iface 32 (.int .i64 k)) := by
    rw [World.cell?_alloc_lt _ _ ⟨p, 1, none⟩ hpl]; simp [World.cell?, hp]
  clear hp
  have h1 := @run_callFunc_extern Tryz.prog 137 _ ReflectliteType.typeOf Tryz.func137 (by kernel_rfl) (by kernel_rfl) (by kernel_rfl) (by kernel_rfl)
  have h2 := @run_callFunc_extern Tryz.prog 221 _ (ReflectliteType.relation "AssignableTo" ReflectliteType.assignableTo) Tryz.func221 (by kernel_rfl) (by kernel_rfl) (by kernel_rfl) (by kernel_rfl)
  have h3 := @run_callFunc_extern Tryz.prog 158 _ (ReflectliteValue.method (ReflectliteValue.valueError "reflectlite.Value.Elem" 0) ReflectliteValue.elem) Tryz.func158 (by kernel_rfl) (by kernel_rfl) (by kernel_rfl) (by kernel_rfl)
  have h4 := @run_callFunc_extern Tryz.prog 133 _ (fun args => ReflectliteValue.unpack (args.getD 0 (.tuple #[]))) Tryz.func133 (by kernel_rfl) (by kernel_rfl) (by kernel_rfl) (by kernel_rfl)
  have h5 := @run_callFunc_extern Tryz.prog 159 _ ReflectliteValue.set Tryz.func159 (by kernel_rfl) (by kernel_rfl) (by kernel_rfl) (by kernel_rfl)
  have f1 := asTypeOf
  have f2 := asMAssign
  have f3 := asAssign
  have f4 := asValueOfE
  have el := asElemV b t (w.alloc (.cells #[.pointer (some ⟨4, 126, none⟩), .pointer (some b), .int .u64 150] 189)) (by rw [World.cell?_alloc_lt _ _ b hbl]; exact hb)
  have st := asSet t ⟨w.heap.size + 1, 0, none⟩ k old ((w.alloc (.cells #[.pointer (some ⟨4, 126, none⟩), .pointer (some b), .int .u64 150] 189)).alloc (.cells #[.int .i64 k] 32))
    (by rw [World.cell?_alloc_at _ _ _ _ (by simp)]; rfl)
    (by rw [World.cell?_alloc_lt _ _ t (by simp; omega), World.cell?_alloc_lt _ _ t htl]; exact ht)
    (by rw [World.frozen?_alloc_old _ _ t (by simp; omega), World.frozen?_alloc_old _ _ t (Nat.ne_of_lt htl)]; exact hf)
  have hfin : AsPost t k w (.returned (.bool true)) ((((w.alloc (.cells #[.pointer (some ⟨4, 126, none⟩), .pointer (some b), .int .u64 150] 189)).alloc (.cells #[.int .i64 k] 32))).setCell t (.int .i64 k)) := by
    refine ⟨rfl, grown_trans (grown_alloc (grown_alloc (grown_refl _ _) _) _) (grown_setCell _ _ _), ?_, ?_⟩
    · exact World.cell?_setCell_same _ _ _ (u := old) (by rw [World.cell?_alloc_lt _ _ t (by simp; omega), World.cell?_alloc_lt _ _ t htl]; exact ht)
    · rw [World.frozen?_setCell, World.frozen?_alloc_old _ _ t (by simp; omega), World.frozen?_alloc_old _ _ t (Nat.ne_of_lt htl)]; exact hf
  have HFIN := Lib.hid hfin
  clear hfin
  go_enter Tryz.func136, Tryz.ntmps136
  go_wp2
  refine wp_loop_rounds 2 ?_
  rw [rounds_succ]
  go_wp2
  rw [rounds_succ]
  go_wp2
  go_ret
  exact HFIN.out


set_option maxHeartbeats 1000000 in
theorem scnumber_nil (w : World) : Calls Tryz.prog 52 #[.nilIface] w fun e w' => e = .returned (.int .i64 0) ∧ Bel w w' := by
  go_enter Tryz.func52, Tryz.ntmps52
  go_wp2
  refine bodyPost_ret (v := .int .i64 0) (by simp [results, Tryz.results52, go_sem]) rfl ⟨rfl, ?_⟩
  exact by (repeat (first | exact Below.refl _ _ | assumption | exact Bel.refl _ | refine Bel.alloc ?_ _ | refine Bel.drew ?_ | refine Bel.drewN ?_ _ | refine Bel.then_ ?_ (by assumption) | refine Bel.setCell ?_ (by first | (simp; done) | (simp; omega)) _))
theorem scnumber_fault (p : Nat) (k : Int) (w : World) (hg : ErrType w) (hp : SFaultAt w p k) : Calls Tryz.prog 52 #[.iface 149 (.pointer (some ⟨p, 0, none⟩))] w fun e w' => e = .returned (.int .i64 k) ∧ Bel w w' := by
  have hba : Bel w (w.alloc (.cells #[.int .i64 0] 32)) := (Bel.refl w).alloc _
  have H := Lib.hid (as_of 149 (.pointer (some ⟨p, 0, none⟩)) k ⟨w.heap.size, 0, none⟩ (.int .i64 0) (w.alloc (.cells #[.int .i64 0] 32)) (hg.bel hba) (by simp) (by simp)
    (fun W b hW h1 h2 h3 => asIn_sfault p k ⟨w.heap.size, 0, none⟩ b _ _ W (hp.bel (hba.then_ hW)) h1 h2 h3))
  have HBA := Lib.hid hba
  clear hg hp hba
  go_enter Tryz.func52, Tryz.ntmps52
  go_wp2_with fail
  refine H.out.mono ?_
  rintro e w1 ⟨rfl, hg1, hc1, hf1⟩
  have HG : Hid (Bel w w1) := Below.grown HBA.out hg1 (by simp) (fun j e => by cases e; exact Nat.le_refl _)
  clear hg1
  go_wp2
  refine bodyPost_ret (v := .int .i64 k) (by simp [results, Tryz.results52, go_sem, hc1, hf1]) rfl ⟨rfl, ?_⟩
  exact HG.out.setCell (Nat.le_refl _) _
end Go.Proofs.YtkklmflclmgjeaaGreatDoor

/-
  Schema: which values fit a column.
-/
set_option linter.unusedVariables false
set_option linter.unusedSimpArgs false
set_option linter.unusedVariables false
set_option linter.unusedSimpArgs false
namespace Go.Proofs.YtkklmflclmgjeaaGreatDoor
open Go.RowKit Go.Shelf Go.Lib
attribute [local go_sem] Oper.semAt_some

/-- The numbers of 64 bits. -/
structure Val.Wf (x : Val) : Prop where
  n0 : -9223372036854775808 ≤ x.n
  n1 : x.n ≤ 9223372036854775807
  u0 : 0 ≤ x.u
  u1 : x.u ≤ 18446744073709551615
def leastI : Int → Int
  | 1 => -128
  | 2 => -32768
  | 4 => -2147483648
  | 8 => -9223372036854775808
  | _ => 0
def mostI : Int → Int
  | 1 => 255
  | 2 => 65535
  | 4 => 4294967295
  | 8 => 18446744073709551615
  | _ => 0
def fitB (t z : Int) (x : Val) : Bool := if t = 1 then decide (leastI z ≤ x.n ∧ x.n ≤ -(leastI z + 1)) else if t = 2 then decide (x.u ≤ mostI z) else if t = 3 then true else decide ((x.b.size : Int) ≤ z)
theorem scka_any (z : Int) (hz : z = 1 ∨ z = 2 ∨ z = 4 ∨ z = 8) (x : Val) (hx : x.Wf) (w : World) : Calls Tryz.prog 143 #[.int .i64 z, x.v] w fun e w' => e = .returned (.bool (fitB 1 z x)) ∧ Bel w w' := by
  obtain ⟨k, n, u, b⟩ := x
  obtain ⟨n0, n1, u0, u1⟩ := hx
  dsimp only at n0 n1 u0 u1
  unfold Val.v
  dsimp only
  rcases hz with rfl | rfl | rfl | rfl
  · go_enter Tryz.func143, Tryz.ntmps143
    go_wp2
    obtain ⟨w1, hw1⟩ : ∃ w1, w1 = w.alloc (.cells #[.int .i64 k, .int .i64 n, .int .u64 u, .string b] 48) := ⟨_, rfl⟩
    rw [← hw1]
    have hb1 : Bel w w1 := by rw [hw1]; exact (Bel.refl w).alloc _
    have hc1 : w1.drew.cell? ⟨w.heap.size, 1, none⟩ = some (.int .i64 n) := by rw [hw1]; go_simp
    clear hw1
    refine wp_region_noPanic ?_
    refine wp_region_held_drew (S := (fun V : World => V.cell? ⟨w.heap.size, 1, none⟩ = some (.int .i64 n))) (by kernel_rfl) ?_ (fun hHr1_0 => ?_)
    · (try dsimp only); exact hc1
    refine wpAnyH_take (i := 0) (oi := _) (v := ?vr1_1_0) rfl (by kernel_rfl) (by kernel_rfl) (by kernel_rfl) ?hqr1_1_0 (Or.inl ⟨by kernel_rfl, ?hyr1_1_0⟩) (by assumption) ?restr1_1_0
    case hqr1_1_0 => exact fun _ _ _ h => h
    case hyr1_1_0 => (intro w hSw; (try dsimp only at hSw); go_simp; try with_reducible rfl)
    try simp only [Act.put, List.getElem_toArray, List.getElem_cons_succ, List.getElem_cons_zero, List.setIfInBounds_toArray, List.set_cons_zero, List.set_cons_succ]
    refine wpAnyH_take (i := 1) (oi := _) (v := ?vr1_1_1) rfl (by kernel_rfl) (by kernel_rfl) (by kernel_rfl) ?hqr1_1_1 (Or.inl ⟨by kernel_rfl, ?hyr1_1_1⟩) (by assumption) ?restr1_1_1
    case hqr1_1_1 => exact fun _ _ _ h => h
    case hyr1_1_1 => (intro w hSw; (try dsimp only at hSw); go_simp; try with_reducible rfl)
    try simp only [Act.put, List.getElem_toArray, List.getElem_cons_succ, List.getElem_cons_zero, List.setIfInBounds_toArray, List.set_cons_zero, List.set_cons_succ]
    refine wpAnyH_take (i := 2) (oi := _) (v := ?vr1_1_2) rfl (by kernel_rfl) (by kernel_rfl) (by kernel_rfl) ?hqr1_1_2 (Or.inl ⟨by kernel_rfl, ?hyr1_1_2⟩) (by assumption) ?restr1_1_2
    case hqr1_1_2 => exact fun _ _ _ h => h
    case hyr1_1_2 => (intro w hSw; (try dsimp only at hSw); go_simp; try with_reducible rfl)
    try simp only [Act.put, List.getElem_toArray, List.getElem_cons_succ, List.getElem_cons_zero, List.setIfInBounds_toArray, List.set_cons_zero, List.set_cons_succ]
    refine wpAnyH_take (i := 3) (oi := _) (v := ?vr1_1_3) rfl (by kernel_rfl) (by kernel_rfl) (by kernel_rfl) ?hqr1_1_3 (Or.inl ⟨by kernel_rfl, ?hyr1_1_3⟩) (by assumption) ?restr1_1_3
    case hqr1_1_3 => exact fun _ _ _ h => h
    case hyr1_1_3 => (intro w hSw; (try dsimp only at hSw); go_simp; try with_reducible rfl)
    try simp only [Act.put, List.getElem_toArray, List.getElem_cons_succ, List.getElem_cons_zero, List.setIfInBounds_toArray, List.set_cons_zero, List.set_cons_succ]
    refine wpAnyH_take (i := 4) (oi := _) (v := ?vr1_1_4) rfl (by kernel_rfl) (by kernel_rfl) (by kernel_rfl) ?hqr1_1_4 (Or.inl ⟨by kernel_rfl, ?hyr1_1_4⟩) (by assumption) ?restr1_1_4
    case hqr1_1_4 => exact fun _ _ _ h => h
    case hyr1_1_4 => (intro w hSw; (try dsimp only at hSw); go_simp; try with_reducible rfl)
    try simp only [Act.put, List.getElem_toArray, List.getElem_cons_succ, List.getElem_cons_zero, List.setIfInBounds_toArray, List.set_cons_zero, List.set_cons_succ]
    refine wpAnyH_take (i := 5) (oi := _) (v := ?vr1_1_5) rfl (by kernel_rfl) (by kernel_rfl) (by kernel_rfl) ?hqr1_1_5 (Or.inl ⟨by kernel_rfl, ?hyr1_1_5⟩) (by assumption) ?restr1_1_5
    case hqr1_1_5 => exact fun _ _ _ h => h
    case hyr1_1_5 => (intro w hSw; (try dsimp only at hSw); go_simp; try with_reducible rfl)
    try simp only [Act.put, List.getElem_toArray, List.getElem_cons_succ, List.getElem_cons_zero, List.setIfInBounds_toArray, List.set_cons_zero, List.set_cons_succ]
    refine wpAnyH_take (i := 6) (oi := _) (v := ?vr1_1_6) rfl (by kernel_rfl) (by kernel_rfl) (by kernel_rfl) ?hqr1_1_6 (Or.inl ⟨by kernel_rfl, ?hyr1_1_6⟩) (by assumption) ?restr1_1_6
    case hqr1_1_6 => exact fun _ _ _ h => h
    case hyr1_1_6 => (intro w hSw; (try dsimp only at hSw); go_simp; try with_reducible rfl)
    try simp only [Act.put, List.getElem_toArray, List.getElem_cons_succ, List.getElem_cons_zero, List.setIfInBounds_toArray, List.set_cons_zero, List.set_cons_succ]
    refine wpAnyH_take (i := 7) (oi := _) (v := ?vr1_1_7) rfl (by kernel_rfl) (by kernel_rfl) (by kernel_rfl) ?hqr1_1_7 (Or.inl ⟨by kernel_rfl, ?hyr1_1_7⟩) (by assumption) ?restr1_1_7
    case hqr1_1_7 => exact fun _ _ _ h => h
    case hyr1_1_7 => (intro w hSw; (try dsimp only at hSw); go_simp; try with_reducible rfl)
    try simp only [Act.put, List.getElem_toArray, List.getElem_cons_succ, List.getElem_cons_zero, List.setIfInBounds_toArray, List.set_cons_zero, List.set_cons_succ]
    refine wpAnyH_take (i := 8) (oi := _) (v := ?vr1_1_8) rfl (by kernel_rfl) (by kernel_rfl) (by kernel_rfl) ?hqr1_1_8 (Or.inl ⟨by kernel_rfl, ?hyr1_1_8⟩) (by assumption) ?restr1_1_8
    case hqr1_1_8 => exact fun _ _ _ h => h
    case hyr1_1_8 => (intro w hSw; (try dsimp only at hSw); go_simp; try with_reducible rfl)
    try simp only [Act.put, List.getElem_toArray, List.getElem_cons_succ, List.getElem_cons_zero, List.setIfInBounds_toArray, List.set_cons_zero, List.set_cons_succ]
    refine wpAnyH_take (i := 9) (oi := _) (v := ?vr1_1_9) rfl (by kernel_rfl) (by kernel_rfl) (by kernel_rfl) ?hqr1_1_9 (Or.inl ⟨by kernel_rfl, ?hyr1_1_9⟩) (by assumption) ?restr1_1_9
    case hqr1_1_9 => exact fun _ _ _ h => h
    case hyr1_1_9 => (intro w hSw; (try dsimp only at hSw); go_simp; try with_reducible rfl)
    try simp only [Act.put, List.getElem_toArray, List.getElem_cons_succ, List.getElem_cons_zero, List.setIfInBounds_toArray, List.set_cons_zero, List.set_cons_succ]
    refine wpAnyH_done (by kernel_rfl) ?_ _
    refine NoPanic.normal ?_
    go_wp2
    go_ret
    refine ⟨?_, hb1.drew⟩
    have hz : (IntKind.i64.wrap (n * 72057594037927936) / 72057594037927936 == n) = decide (-128 ≤ n ∧ n ≤ 127) := by
      rw [Bool.eq_iff_iff, beq_iff_eq, decide_eq_true_iff]
      simp [IntKind.wrap, IntKind.bits, IntKind.signed]
      omega
    exact congrArg (fun x => Ending.returned (Value.bool x)) hz
  · go_enter Tryz.func143, Tryz.ntmps143
    go_wp2
    obtain ⟨w1, hw1⟩ : ∃ w1, w1 = w.alloc (.cells #[.int .i64 k, .int .i64 n, .int .u64 u, .string b] 48) := ⟨_, rfl⟩
    rw [← hw1]
    have hb1 : Bel w w1 := by rw [hw1]; exact (Bel.refl w).alloc _
    have hc1 : w1.drew.cell? ⟨w.heap.size, 1, none⟩ = some (.int .i64 n) := by rw [hw1]; go_simp
    clear hw1
    refine wp_region_noPanic ?_
    refine wp_region_held_drew (S := (fun V : World => V.cell? ⟨w.heap.size, 1, none⟩ = some (.int .i64 n))) (by kernel_rfl) ?_ (fun hHr2_0 => ?_)
    · (try dsimp only); exact hc1
    refine wpAnyH_take (i := 0) (oi := _) (v := ?vr2_1_0) rfl (by kernel_rfl) (by kernel_rfl) (by kernel_rfl) ?hqr2_1_0 (Or.inl ⟨by kernel_rfl, ?hyr2_1_0⟩) (by assumption) ?restr2_1_0
    case hqr2_1_0 => exact fun _ _ _ h => h
    case hyr2_1_0 => (intro w hSw; (try dsimp only at hSw); go_simp; try with_reducible rfl)
    try simp only [Act.put, List.getElem_toArray, List.getElem_cons_succ, List.getElem_cons_zero, List.setIfInBounds_toArray, List.set_cons_zero, List.set_cons_succ]
    refine wpAnyH_take (i := 1) (oi := _) (v := ?vr2_1_1) rfl (by kernel_rfl) (by kernel_rfl) (by kernel_rfl) ?hqr2_1_1 (Or.inl ⟨by kernel_rfl, ?hyr2_1_1⟩) (by assumption) ?restr2_1_1
    case hqr2_1_1 => exact fun _ _ _ h => h
    case hyr2_1_1 => (intro w hSw; (try dsimp only at hSw); go_simp; try with_reducible rfl)
    try simp only [Act.put, List.getElem_toArray, List.getElem_cons_succ, List.getElem_cons_zero, List.setIfInBounds_toArray, List.set_cons_zero, List.set_cons_succ]
    refine wpAnyH_take (i := 2) (oi := _) (v := ?vr2_1_2) rfl (by kernel_rfl) (by kernel_rfl) (by kernel_rfl) ?hqr2_1_2 (Or.inl ⟨by kernel_rfl, ?hyr2_1_2⟩) (by assumption) ?restr2_1_2
    case hqr2_1_2 => exact fun _ _ _ h => h
    case hyr2_1_2 => (intro w hSw; (try dsimp only at hSw); go_simp; try with_reducible rfl)
    try simp only [Act.put, List.getElem_toArray, List.getElem_cons_succ, List.getElem_cons_zero, List.setIfInBounds_toArray, List.set_cons_zero, List.set_cons_succ]
    refine wpAnyH_take (i := 3) (oi := _) (v := ?vr2_1_3) rfl (by kernel_rfl) (by kernel_rfl) (by kernel_rfl) ?hqr2_1_3 (Or.inl ⟨by kernel_rfl, ?hyr2_1_3⟩) (by assumption) ?restr2_1_3
    case hqr2_1_3 => exact fun _ _ _ h => h
    case hyr2_1_3 => (intro w hSw; (try dsimp only at hSw); go_simp; try with_reducible rfl)
    try simp only [Act.put, List.getElem_toArray, List.getElem_cons_succ, List.getElem_cons_zero, List.setIfInBounds_toArray, List.set_cons_zero, List.set_cons_succ]
    refine wpAnyH_take (i := 4) (oi := _) (v := ?vr2_1_4) rfl (by kernel_rfl) (by kernel_rfl) (by kernel_rfl) ?hqr2_1_4 (Or.inl ⟨by kernel_rfl, ?hyr2_1_4⟩) (by assumption) ?restr2_1_4
    case hqr2_1_4 => exact fun _ _ _ h => h
    case hyr2_1_4 => (intro w hSw; (try dsimp only at hSw); go_simp; try with_reducible rfl)
    try simp only [Act.put, List.getElem_toArray, List.getElem_cons_succ, List.getElem_cons_zero, List.setIfInBounds_toArray, List.set_cons_zero, List.set_cons_succ]
    refine wpAnyH_take (i := 5) (oi := _) (v := ?vr2_1_5) rfl (by kernel_rfl) (by kernel_rfl) (by kernel_rfl) ?hqr2_1_5 (Or.inl ⟨by kernel_rfl, ?hyr2_1_5⟩) (by assumption) ?restr2_1_5
    case hqr2_1_5 => exact fun _ _ _ h => h
    case hyr2_1_5 => (intro w hSw; (try dsimp only at hSw); go_simp; try with_reducible rfl)
    try simp only [Act.put, List.getElem_toArray, List.getElem_cons_succ, List.getElem_cons_zero, List.setIfInBounds_toArray, List.set_cons_zero, List.set_cons_succ]
    refine wpAnyH_take (i := 6) (oi := _) (v := ?vr2_1_6) rfl (by kernel_rfl) (by kernel_rfl) (by kernel_rfl) ?hqr2_1_6 (Or.inl ⟨by kernel_rfl, ?hyr2_1_6⟩) (by assumption) ?restr2_1_6
    case hqr2_1_6 => exact fun _ _ _ h => h
    case hyr2_1_6 => (intro w hSw; (try dsimp only at hSw); go_simp; try with_reducible rfl)
    try simp only [Act.put, List.getElem_toArray, List.getElem_cons_succ, List.getElem_cons_zero, List.setIfInBounds_toArray, List.set_cons_zero, List.set_cons_succ]
    refine wpAnyH_take (i := 7) (oi := _) (v := ?vr2_1_7) rfl (by kernel_rfl) (by kernel_rfl) (by kernel_rfl) ?hqr2_1_7 (Or.inl ⟨by kernel_rfl, ?hyr2_1_7⟩) (by assumption) ?restr2_1_7
    case hqr2_1_7 => exact fun _ _ _ h => h
    case hyr2_1_7 => (intro w hSw; (try dsimp only at hSw); go_simp; try with_reducible rfl)
    try simp only [Act.put, List.getElem_toArray, List.getElem_cons_succ, List.getElem_cons_zero, List.setIfInBounds_toArray, List.set_cons_zero, List.set_cons_succ]
    refine wpAnyH_take (i := 8) (oi := _) (v := ?vr2_1_8) rfl (by kernel_rfl) (by kernel_rfl) (by kernel_rfl) ?hqr2_1_8 (Or.inl ⟨by kernel_rfl, ?hyr2_1_8⟩) (by assumption) ?restr2_1_8
    case hqr2_1_8 => exact fun _ _ _ h => h
    case hyr2_1_8 => (intro w hSw; (try dsimp only at hSw); go_simp; try with_reducible rfl)
    try simp only [Act.put, List.getElem_toArray, List.getElem_cons_succ, List.getElem_cons_zero, List.setIfInBounds_toArray, List.set_cons_zero, List.set_cons_succ]
    refine wpAnyH_take (i := 9) (oi := _) (v := ?vr2_1_9) rfl (by kernel_rfl) (by kernel_rfl) (by kernel_rfl) ?hqr2_1_9 (Or.inl ⟨by kernel_rfl, ?hyr2_1_9⟩) (by assumption) ?restr2_1_9
    case hqr2_1_9 => exact fun _ _ _ h => h
    case hyr2_1_9 => (intro w hSw; (try dsimp only at hSw); go_simp; try with_reducible rfl)
    try simp only [Act.put, List.getElem_toArray, List.getElem_cons_succ, List.getElem_cons_zero, List.setIfInBounds_toArray, List.set_cons_zero, List.set_cons_succ]
    refine wpAnyH_done (by kernel_rfl) ?_ _
    refine NoPanic.normal ?_
    go_wp2
    go_ret
    refine ⟨?_, hb1.drew⟩
    have hz : (IntKind.i64.wrap (n * 281474976710656) / 281474976710656 == n) = decide (-32768 ≤ n ∧ n ≤ 32767) := by
      rw [Bool.eq_iff_iff, beq_iff_eq, decide_eq_true_iff]
      simp [IntKind.wrap, IntKind.bits, IntKind.signed]
      omega
    exact congrArg (fun x => Ending.returned (Value.bool x)) hz
  · go_enter Tryz.func143, Tryz.ntmps143
    go_wp2
    obtain ⟨w1, hw1⟩ : ∃ w1, w1 = w.alloc (.cells #[.int .i64 k, .int .i64 n, .int .u64 u, .string b] 48) := ⟨_, rfl⟩
    rw [← hw1]
    have hb1 : Bel w w1 := by rw [hw1]; exact (Bel.refl w).alloc _
    have hc1 : w1.drew.cell? ⟨w.heap.size, 1, none⟩ = some (.int .i64 n) := by rw [hw1]; go_simp
    clear hw1
    refine wp_region_noPanic ?_
    refine wp_region_held_drew (S := (fun V : World => V.cell? ⟨w.heap.size, 1, none⟩ = some (.int .i64 n))) (by kernel_rfl) ?_ (fun hHr3_0 => ?_)
    · (try dsimp only); exact hc1
    refine wpAnyH_take (i := 0) (oi := _) (v := ?vr3_1_0) rfl (by kernel_rfl) (by kernel_rfl) (by kernel_rfl) ?hqr3_1_0 (Or.inl ⟨by kernel_rfl, ?hyr3_1_0⟩) (by assumption) ?restr3_1_0
    case hqr3_1_0 => exact fun _ _ _ h => h
    case hyr3_1_0 => (intro w hSw; (try dsimp only at hSw); go_simp; try with_reducible rfl)
    try simp only [Act.put, List.getElem_toArray, List.getElem_cons_succ, List.getElem_cons_zero, List.setIfInBounds_toArray, List.set_cons_zero, List.set_cons_succ]
    refine wpAnyH_take (i := 1) (oi := _) (v := ?vr3_1_1) rfl (by kernel_rfl) (by kernel_rfl) (by kernel_rfl) ?hqr3_1_1 (Or.inl ⟨by kernel_rfl, ?hyr3_1_1⟩) (by assumption) ?restr3_1_1
    case hqr3_1_1 => exact fun _ _ _ h => h
    case hyr3_1_1 => (intro w hSw; (try dsimp only at hSw); go_simp; try with_reducible rfl)
    try simp only [Act.put, List.getElem_toArray, List.getElem_cons_succ, List.getElem_cons_zero, List.setIfInBounds_toArray, List.set_cons_zero, List.set_cons_succ]
    refine wpAnyH_take (i := 2) (oi := _) (v := ?vr3_1_2) rfl (by kernel_rfl) (by kernel_rfl) (by kernel_rfl) ?hqr3_1_2 (Or.inl ⟨by kernel_rfl, ?hyr3_1_2⟩) (by assumption) ?restr3_1_2
    case hqr3_1_2 => exact fun _ _ _ h => h
    case hyr3_1_2 => (intro w hSw; (try dsimp only at hSw); go_simp; try with_reducible rfl)
    try simp only [Act.put, List.getElem_toArray, List.getElem_cons_succ, List.getElem_cons_zero, List.setIfInBounds_toArray, List.set_cons_zero, List.set_cons_succ]
    refine wpAnyH_take (i := 3) (oi := _) (v := ?vr3_1_3) rfl (by kernel_rfl) (by kernel_rfl) (by kernel_rfl) ?hqr3_1_3 (Or.inl ⟨by kernel_rfl, ?hyr3_1_3⟩) (by assumption) ?restr3_1_3
    case hqr3_1_3 => exact fun _ _ _ h => h
    case hyr3_1_3 => (intro w hSw; (try dsimp only at hSw); go_simp; try with_reducible rfl)
    try simp only [Act.put, List.getElem_toArray, List.getElem_cons_succ, List.getElem_cons_zero, List.setIfInBounds_toArray, List.set_cons_zero, List.set_cons_succ]
    refine wpAnyH_take (i := 4) (oi := _) (v := ?vr3_1_4) rfl (by kernel_rfl) (by kernel_rfl) (by kernel_rfl) ?hqr3_1_4 (Or.inl ⟨by kernel_rfl, ?hyr3_1_4⟩) (by assumption) ?restr3_1_4
    case hqr3_1_4 => exact fun _ _ _ h => h
    case hyr3_1_4 => (intro w hSw; (try dsimp only at hSw); go_simp; try with_reducible rfl)
    try simp only [Act.put, List.getElem_toArray, List.getElem_cons_succ, List.getElem_cons_zero, List.setIfInBounds_toArray, List.set_cons_zero, List.set_cons_succ]
    refine wpAnyH_take (i := 5) (oi := _) (v := ?vr3_1_5) rfl (by kernel_rfl) (by kernel_rfl) (by kernel_rfl) ?hqr3_1_5 (Or.inl ⟨by kernel_rfl, ?hyr3_1_5⟩) (by assumption) ?restr3_1_5
    case hqr3_1_5 => exact fun _ _ _ h => h
    case hyr3_1_5 => (intro w hSw; (try dsimp only at hSw); go_simp; try with_reducible rfl)
    try simp only [Act.put, List.getElem_toArray, List.getElem_cons_succ, List.getElem_cons_zero, List.setIfInBounds_toArray, List.set_cons_zero, List.set_cons_succ]
    refine wpAnyH_take (i := 6) (oi := _) (v := ?vr3_1_6) rfl (by kernel_rfl) (by kernel_rfl) (by kernel_rfl) ?hqr3_1_6 (Or.inl ⟨by kernel_rfl, ?hyr3_1_6⟩) (by assumption) ?restr3_1_6
    case hqr3_1_6 => exact fun _ _ _ h => h
    case hyr3_1_6 => (intro w hSw; (try dsimp only at hSw); go_simp; try with_reducible rfl)
    try simp only [Act.put, List.getElem_toArray, List.getElem_cons_succ, List.getElem_cons_zero, List.setIfInBounds_toArray, List.set_cons_zero, List.set_cons_succ]
    refine wpAnyH_take (i := 7) (oi := _) (v := ?vr3_1_7) rfl (by kernel_rfl) (by kernel_rfl) (by kernel_rfl) ?hqr3_1_7 (Or.inl ⟨by kernel_rfl, ?hyr3_1_7⟩) (by assumption) ?restr3_1_7
    case hqr3_1_7 => exact fun _ _ _ h => h
    case hyr3_1_7 => (intro w hSw; (try dsimp only at hSw); go_simp; try with_reducible rfl)
    try simp only [Act.put, List.getElem_toArray, List.getElem_cons_succ, List.getElem_cons_zero, List.setIfInBounds_toArray, List.set_cons_zero, List.set_cons_succ]
    refine wpAnyH_take (i := 8) (oi := _) (v := ?vr3_1_8) rfl (by kernel_rfl) (by kernel_rfl) (by kernel_rfl) ?hqr3_1_8 (Or.inl ⟨by kernel_rfl, ?hyr3_1_8⟩) (by assumption) ?restr3_1_8
    case hqr3_1_8 => exact fun _ _ _ h => h
    case hyr3_1_8 => (intro w hSw; (try dsimp only at hSw); go_simp; try with_reducible rfl)
    try simp only [Act.put, List.getElem_toArray, List.getElem_cons_succ, List.getElem_cons_zero, List.setIfInBounds_toArray, List.set_cons_zero, List.set_cons_succ]
    refine wpAnyH_take (i := 9) (oi := _) (v := ?vr3_1_9) rfl (by kernel_rfl) (by kernel_rfl) (by kernel_rfl) ?hqr3_1_9 (Or.inl ⟨by kernel_rfl, ?hyr3_1_9⟩) (by assumption) ?restr3_1_9
    case hqr3_1_9 => exact fun _ _ _ h => h
    case hyr3_1_9 => (intro w hSw; (try dsimp only at hSw); go_simp; try with_reducible rfl)
    try simp only [Act.put, List.getElem_toArray, List.getElem_cons_succ, List.getElem_cons_zero, List.setIfInBounds_toArray, List.set_cons_zero, List.set_cons_succ]
    refine wpAnyH_done (by kernel_rfl) ?_ _
    refine NoPanic.normal ?_
    go_wp2
    go_ret
    refine ⟨?_, hb1.drew⟩
    have hz : (IntKind.i64.wrap (n * 4294967296) / 4294967296 == n) = decide (-2147483648 ≤ n ∧ n ≤ 2147483647) := by
      rw [Bool.eq_iff_iff, beq_iff_eq, decide_eq_true_iff]
      simp [IntKind.wrap, IntKind.bits, IntKind.signed]
      omega
    exact congrArg (fun x => Ending.returned (Value.bool x)) hz
  · go_enter Tryz.func143, Tryz.ntmps143
    go_wp2
    obtain ⟨w1, hw1⟩ : ∃ w1, w1 = w.alloc (.cells #[.int .i64 k, .int .i64 n, .int .u64 u, .string b] 48) := ⟨_, rfl⟩
    rw [← hw1]
    have hb1 : Bel w w1 := by rw [hw1]; exact (Bel.refl w).alloc _
    have hc1 : w1.drew.cell? ⟨w.heap.size, 1, none⟩ = some (.int .i64 n) := by rw [hw1]; go_simp
    clear hw1
    refine wp_region_noPanic ?_
    refine wp_region_held_drew (S := (fun V : World => V.cell? ⟨w.heap.size, 1, none⟩ = some (.int .i64 n))) (by kernel_rfl) ?_ (fun hHr4_0 => ?_)
    · (try dsimp only); exact hc1
    refine wpAnyH_take (i := 0) (oi := _) (v := ?vr4_1_0) rfl (by kernel_rfl) (by kernel_rfl) (by kernel_rfl) ?hqr4_1_0 (Or.inl ⟨by kernel_rfl, ?hyr4_1_0⟩) (by assumption) ?restr4_1_0
    case hqr4_1_0 => exact fun _ _ _ h => h
    case hyr4_1_0 => (intro w hSw; (try dsimp only at hSw); go_simp; try with_reducible rfl)
    try simp only [Act.put, List.getElem_toArray, List.getElem_cons_succ, List.getElem_cons_zero, List.setIfInBounds_toArray, List.set_cons_zero, List.set_cons_succ]
    refine wpAnyH_take (i := 1) (oi := _) (v := ?vr4_1_1) rfl (by kernel_rfl) (by kernel_rfl) (by kernel_rfl) ?hqr4_1_1 (Or.inl ⟨by kernel_rfl, ?hyr4_1_1⟩) (by assumption) ?restr4_1_1
    case hqr4_1_1 => exact fun _ _ _ h => h
    case hyr4_1_1 => (intro w hSw; (try dsimp only at hSw); go_simp; try with_reducible rfl)
    try simp only [Act.put, List.getElem_toArray, List.getElem_cons_succ, List.getElem_cons_zero, List.setIfInBounds_toArray, List.set_cons_zero, List.set_cons_succ]
    refine wpAnyH_take (i := 2) (oi := _) (v := ?vr4_1_2) rfl (by kernel_rfl) (by kernel_rfl) (by kernel_rfl) ?hqr4_1_2 (Or.inl ⟨by kernel_rfl, ?hyr4_1_2⟩) (by assumption) ?restr4_1_2
    case hqr4_1_2 => exact fun _ _ _ h => h
    case hyr4_1_2 => (intro w hSw; (try dsimp only at hSw); go_simp; try with_reducible rfl)
    try simp only [Act.put, List.getElem_toArray, List.getElem_cons_succ, List.getElem_cons_zero, List.setIfInBounds_toArray, List.set_cons_zero, List.set_cons_succ]
    refine wpAnyH_take (i := 3) (oi := _) (v := ?vr4_1_3) rfl (by kernel_rfl) (by kernel_rfl) (by kernel_rfl) ?hqr4_1_3 (Or.inl ⟨by kernel_rfl, ?hyr4_1_3⟩) (by assumption) ?restr4_1_3
    case hqr4_1_3 => exact fun _ _ _ h => h
    case hyr4_1_3 => (intro w hSw; (try dsimp only at hSw); go_simp; try with_reducible rfl)
    try simp only [Act.put, List.getElem_toArray, List.getElem_cons_succ, List.getElem_cons_zero, List.setIfInBounds_toArray, List.set_cons_zero, List.set_cons_succ]
    refine wpAnyH_take (i := 4) (oi := _) (v := ?vr4_1_4) rfl (by kernel_rfl) (by kernel_rfl) (by kernel_rfl) ?hqr4_1_4 (Or.inl ⟨by kernel_rfl, ?hyr4_1_4⟩) (by assumption) ?restr4_1_4
    case hqr4_1_4 => exact fun _ _ _ h => h
    case hyr4_1_4 => (intro w hSw; (try dsimp only at hSw); go_simp; try with_reducible rfl)
    try simp only [Act.put, List.getElem_toArray, List.getElem_cons_succ, List.getElem_cons_zero, List.setIfInBounds_toArray, List.set_cons_zero, List.set_cons_succ]
    refine wpAnyH_take (i := 5) (oi := _) (v := ?vr4_1_5) rfl (by kernel_rfl) (by kernel_rfl) (by kernel_rfl) ?hqr4_1_5 (Or.inl ⟨by kernel_rfl, ?hyr4_1_5⟩) (by assumption) ?restr4_1_5
    case hqr4_1_5 => exact fun _ _ _ h => h
    case hyr4_1_5 => (intro w hSw; (try dsimp only at hSw); go_simp; try with_reducible rfl)
    try simp only [Act.put, List.getElem_toArray, List.getElem_cons_succ, List.getElem_cons_zero, List.setIfInBounds_toArray, List.set_cons_zero, List.set_cons_succ]
    refine wpAnyH_take (i := 6) (oi := _) (v := ?vr4_1_6) rfl (by kernel_rfl) (by kernel_rfl) (by kernel_rfl) ?hqr4_1_6 (Or.inl ⟨by kernel_rfl, ?hyr4_1_6⟩) (by assumption) ?restr4_1_6
    case hqr4_1_6 => exact fun _ _ _ h => h
    case hyr4_1_6 => (intro w hSw; (try dsimp only at hSw); go_simp; try with_reducible rfl)
    try simp only [Act.put, List.getElem_toArray, List.getElem_cons_succ, List.getElem_cons_zero, List.setIfInBounds_toArray, List.set_cons_zero, List.set_cons_succ]
    refine wpAnyH_take (i := 7) (oi := _) (v := ?vr4_1_7) rfl (by kernel_rfl) (by kernel_rfl) (by kernel_rfl) ?hqr4_1_7 (Or.inl ⟨by kernel_rfl, ?hyr4_1_7⟩) (by assumption) ?restr4_1_7
    case hqr4_1_7 => exact fun _ _ _ h => h
    case hyr4_1_7 => (intro w hSw; (try dsimp only at hSw); go_simp; try with_reducible rfl)
    try simp only [Act.put, List.getElem_toArray, List.getElem_cons_succ, List.getElem_cons_zero, List.setIfInBounds_toArray, List.set_cons_zero, List.set_cons_succ]
    refine wpAnyH_take (i := 8) (oi := _) (v := ?vr4_1_8) rfl (by kernel_rfl) (by kernel_rfl) (by kernel_rfl) ?hqr4_1_8 (Or.inl ⟨by kernel_rfl, ?hyr4_1_8⟩) (by assumption) ?restr4_1_8
    case hqr4_1_8 => exact fun _ _ _ h => h
    case hyr4_1_8 => (intro w hSw; (try dsimp only at hSw); go_simp; try with_reducible rfl)
    try simp only [Act.put, List.getElem_toArray, List.getElem_cons_succ, List.getElem_cons_zero, List.setIfInBounds_toArray, List.set_cons_zero, List.set_cons_succ]
    refine wpAnyH_take (i := 9) (oi := _) (v := ?vr4_1_9) rfl (by kernel_rfl) (by kernel_rfl) (by kernel_rfl) ?hqr4_1_9 (Or.inl ⟨by kernel_rfl, ?hyr4_1_9⟩) (by assumption) ?restr4_1_9
    case hqr4_1_9 => exact fun _ _ _ h => h
    case hyr4_1_9 => (intro w hSw; (try dsimp only at hSw); go_simp; try with_reducible rfl)
    try simp only [Act.put, List.getElem_toArray, List.getElem_cons_succ, List.getElem_cons_zero, List.setIfInBounds_toArray, List.set_cons_zero, List.set_cons_succ]
    refine wpAnyH_done (by kernel_rfl) ?_ _
    refine NoPanic.normal ?_
    go_wp2
    go_ret
    refine ⟨?_, hb1.drew⟩
    have hz : (IntKind.i64.wrap n == n) = decide (-9223372036854775808 ≤ n ∧ n ≤ 9223372036854775807) := by
      rw [Bool.eq_iff_iff, beq_iff_eq, decide_eq_true_iff]
      simp [IntKind.wrap, IntKind.bits, IntKind.signed]
      omega
    exact congrArg (fun x => Ending.returned (Value.bool x)) hz
theorem sckb_any (z : Int) (hz : z = 1 ∨ z = 2 ∨ z = 4 ∨ z = 8) (x : Val) (hx : x.Wf) (w : World) : Calls Tryz.prog 144 #[.int .i64 z, x.v] w fun e w' => e = .returned (.bool (fitB 2 z x)) ∧ Bel w w' := by
  obtain ⟨k, n, u, b⟩ := x
  obtain ⟨n0, n1, u0, u1⟩ := hx
  dsimp only at n0 n1 u0 u1
  unfold Val.v
  dsimp only
  rcases hz with rfl | rfl | rfl | rfl
  · go_enter Tryz.func144, Tryz.ntmps144
    go_wp2
    obtain ⟨w1, hw1⟩ : ∃ w1, w1 = w.alloc (.cells #[.int .i64 k, .int .i64 n, .int .u64 u, .string b] 48) := ⟨_, rfl⟩
    rw [← hw1]
    have hb1 : Bel w w1 := by rw [hw1]; exact (Bel.refl w).alloc _
    have hc1 : w1.drew.cell? ⟨w.heap.size, 2, none⟩ = some (.int .u64 u) := by rw [hw1]; go_simp
    clear hw1
    refine wp_region_noPanic ?_
    refine wp_region_held_drew (S := (fun V : World => V.cell? ⟨w.heap.size, 2, none⟩ = some (.int .u64 u))) (by kernel_rfl) ?_ (fun hHr5_0 => ?_)
    · (try dsimp only); exact hc1
    refine wpAnyH_take (i := 0) (oi := _) (v := ?vr5_1_0) rfl (by kernel_rfl) (by kernel_rfl) (by kernel_rfl) ?hqr5_1_0 (Or.inl ⟨by kernel_rfl, ?hyr5_1_0⟩) (by assumption) ?restr5_1_0
    case hqr5_1_0 => exact fun _ _ _ h => h
    case hyr5_1_0 => (intro w hSw; (try dsimp only at hSw); go_simp; try with_reducible rfl)
    try simp only [Act.put, List.getElem_toArray, List.getElem_cons_succ, List.getElem_cons_zero, List.setIfInBounds_toArray, List.set_cons_zero, List.set_cons_succ]
    refine wpAnyH_take (i := 1) (oi := _) (v := ?vr5_1_1) rfl (by kernel_rfl) (by kernel_rfl) (by kernel_rfl) ?hqr5_1_1 (Or.inl ⟨by kernel_rfl, ?hyr5_1_1⟩) (by assumption) ?restr5_1_1
    case hqr5_1_1 => exact fun _ _ _ h => h
    case hyr5_1_1 => (intro w hSw; (try dsimp only at hSw); go_simp; try with_reducible rfl)
    try simp only [Act.put, List.getElem_toArray, List.getElem_cons_succ, List.getElem_cons_zero, List.setIfInBounds_toArray, List.set_cons_zero, List.set_cons_succ]
    refine wpAnyH_take (i := 2) (oi := _) (v := ?vr5_1_2) rfl (by kernel_rfl) (by kernel_rfl) (by kernel_rfl) ?hqr5_1_2 (Or.inl ⟨by kernel_rfl, ?hyr5_1_2⟩) (by assumption) ?restr5_1_2
    case hqr5_1_2 => exact fun _ _ _ h => h
    case hyr5_1_2 => (intro w hSw; (try dsimp only at hSw); go_simp; try with_reducible rfl)
    try simp only [Act.put, List.getElem_toArray, List.getElem_cons_succ, List.getElem_cons_zero, List.setIfInBounds_toArray, List.set_cons_zero, List.set_cons_succ]
    refine wpAnyH_take (i := 3) (oi := _) (v := ?vr5_1_3) rfl (by kernel_rfl) (by kernel_rfl) (by kernel_rfl) ?hqr5_1_3 (Or.inl ⟨by kernel_rfl, ?hyr5_1_3⟩) (by assumption) ?restr5_1_3
    case hqr5_1_3 => exact fun _ _ _ h => h
    case hyr5_1_3 => (intro w hSw; (try dsimp only at hSw); go_simp; try with_reducible rfl)
    try simp only [Act.put, List.getElem_toArray, List.getElem_cons_succ, List.getElem_cons_zero, List.setIfInBounds_toArray, List.set_cons_zero, List.set_cons_succ]
    refine wpAnyH_take (i := 4) (oi := _) (v := ?vr5_1_4) rfl (by kernel_rfl) (by kernel_rfl) (by kernel_rfl) ?hqr5_1_4 (Or.inl ⟨by kernel_rfl, ?hyr5_1_4⟩) (by assumption) ?restr5_1_4
    case hqr5_1_4 => exact fun _ _ _ h => h
    case hyr5_1_4 => (intro w hSw; (try dsimp only at hSw); go_simp; try with_reducible rfl)
    try simp only [Act.put, List.getElem_toArray, List.getElem_cons_succ, List.getElem_cons_zero, List.setIfInBounds_toArray, List.set_cons_zero, List.set_cons_succ]
    refine wpAnyH_take (i := 5) (oi := _) (v := ?vr5_1_5) rfl (by kernel_rfl) (by kernel_rfl) (by kernel_rfl) ?hqr5_1_5 (Or.inl ⟨by kernel_rfl, ?hyr5_1_5⟩) (by assumption) ?restr5_1_5
    case hqr5_1_5 => exact fun _ _ _ h => h
    case hyr5_1_5 => (intro w hSw; (try dsimp only at hSw); go_simp; try with_reducible rfl)
    try simp only [Act.put, List.getElem_toArray, List.getElem_cons_succ, List.getElem_cons_zero, List.setIfInBounds_toArray, List.set_cons_zero, List.set_cons_succ]
    refine wpAnyH_take (i := 6) (oi := _) (v := ?vr5_1_6) rfl (by kernel_rfl) (by kernel_rfl) (by kernel_rfl) ?hqr5_1_6 (Or.inl ⟨by kernel_rfl, ?hyr5_1_6⟩) (by assumption) ?restr5_1_6
    case hqr5_1_6 => exact fun _ _ _ h => h
    case hyr5_1_6 => (intro w hSw; (try dsimp only at hSw); go_simp; try with_reducible rfl)
    try simp only [Act.put, List.getElem_toArray, List.getElem_cons_succ, List.getElem_cons_zero, List.setIfInBounds_toArray, List.set_cons_zero, List.set_cons_succ]
    refine wpAnyH_take (i := 7) (oi := _) (v := ?vr5_1_7) rfl (by kernel_rfl) (by kernel_rfl) (by kernel_rfl) ?hqr5_1_7 (Or.inl ⟨by kernel_rfl, ?hyr5_1_7⟩) (by assumption) ?restr5_1_7
    case hqr5_1_7 => exact fun _ _ _ h => h
    case hyr5_1_7 => (intro w hSw; (try dsimp only at hSw); go_simp; try with_reducible rfl)
    try simp only [Act.put, List.getElem_toArray, List.getElem_cons_succ, List.getElem_cons_zero, List.setIfInBounds_toArray, List.set_cons_zero, List.set_cons_succ]
    refine wpAnyH_take (i := 8) (oi := _) (v := ?vr5_1_8) rfl (by kernel_rfl) (by kernel_rfl) (by kernel_rfl) ?hqr5_1_8 (Or.inl ⟨by kernel_rfl, ?hyr5_1_8⟩) (by assumption) ?restr5_1_8
    case hqr5_1_8 => exact fun _ _ _ h => h
    case hyr5_1_8 => (intro w hSw; (try dsimp only at hSw); go_simp; try with_reducible rfl)
    try simp only [Act.put, List.getElem_toArray, List.getElem_cons_succ, List.getElem_cons_zero, List.setIfInBounds_toArray, List.set_cons_zero, List.set_cons_succ]
    refine wpAnyH_take (i := 9) (oi := _) (v := ?vr5_1_9) rfl (by kernel_rfl) (by kernel_rfl) (by kernel_rfl) ?hqr5_1_9 (Or.inl ⟨by kernel_rfl, ?hyr5_1_9⟩) (by assumption) ?restr5_1_9
    case hqr5_1_9 => exact fun _ _ _ h => h
    case hyr5_1_9 => (intro w hSw; (try dsimp only at hSw); go_simp; try with_reducible rfl)
    try simp only [Act.put, List.getElem_toArray, List.getElem_cons_succ, List.getElem_cons_zero, List.setIfInBounds_toArray, List.set_cons_zero, List.set_cons_succ]
    refine wpAnyH_done (by kernel_rfl) ?_ _
    refine NoPanic.normal ?_
    go_wp2
    go_ret
    refine ⟨?_, hb1.drew⟩
    have hz : (IntKind.u64.wrap (u * 72057594037927936) / 72057594037927936 == u) = decide (u ≤ 255) := by
      rw [Bool.eq_iff_iff, beq_iff_eq, decide_eq_true_iff]
      simp [IntKind.wrap, IntKind.bits, IntKind.signed]
      omega
    exact congrArg (fun x => Ending.returned (Value.bool x)) hz
  · go_enter Tryz.func144, Tryz.ntmps144
    go_wp2
    obtain ⟨w1, hw1⟩ : ∃ w1, w1 = w.alloc (.cells #[.int .i64 k, .int .i64 n, .int .u64 u, .string b] 48) := ⟨_, rfl⟩
    rw [← hw1]
    have hb1 : Bel w w1 := by rw [hw1]; exact (Bel.refl w).alloc _
    have hc1 : w1.drew.cell? ⟨w.heap.size, 2, none⟩ = some (.int .u64 u) := by rw [hw1]; go_simp
    clear hw1
    refine wp_region_noPanic ?_
    refine wp_region_held_drew (S := (fun V : World => V.cell? ⟨w.heap.size, 2, none⟩ = some (.int .u64 u))) (by kernel_rfl) ?_ (fun hHr6_0 => ?_)
    · (try dsimp only); exact hc1
    refine wpAnyH_take (i := 0) (oi := _) (v := ?vr6_1_0) rfl (by kernel_rfl) (by kernel_rfl) (by kernel_rfl) ?hqr6_1_0 (Or.inl ⟨by kernel_rfl, ?hyr6_1_0⟩) (by assumption) ?restr6_1_0
    case hqr6_1_0 => exact fun _ _ _ h => h
    case hyr6_1_0 => (intro w hSw; (try dsimp only at hSw); go_simp; try with_reducible rfl)
    try simp only [Act.put, List.getElem_toArray, List.getElem_cons_succ, List.getElem_cons_zero, List.setIfInBounds_toArray, List.set_cons_zero, List.set_cons_succ]
    refine wpAnyH_take (i := 1) (oi := _) (v := ?vr6_1_1) rfl (by kernel_rfl) (by kernel_rfl) (by kernel_rfl) ?hqr6_1_1 (Or.inl ⟨by kernel_rfl, ?hyr6_1_1⟩) (by assumption) ?restr6_1_1
    case hqr6_1_1 => exact fun _ _ _ h => h
    case hyr6_1_1 => (intro w hSw; (try dsimp only at hSw); go_simp; try with_reducible rfl)
    try simp only [Act.put, List.getElem_toArray, List.getElem_cons_succ, List.getElem_cons_zero, List.setIfInBounds_toArray, List.set_cons_zero, List.set_cons_succ]
    refine wpAnyH_take (i := 2) (oi := _) (v := ?vr6_1_2) rfl (by kernel_rfl) (by kernel_rfl) (by kernel_rfl) ?hqr6_1_2 (Or.inl ⟨by kernel_rfl, ?hyr6_1_2⟩) (by assumption) ?restr6_1_2
    case hqr6_1_2 => exact fun _ _ _ h => h
    case hyr6_1_2 => (intro w hSw; (try dsimp only at hSw); go_simp; try with_reducible rfl)
    try simp only [Act.put, List.getElem_toArray, List.getElem_cons_succ, List.getElem_cons_zero, List.setIfInBounds_toArray, List.set_cons_zero, List.set_cons_succ]
    refine wpAnyH_take (i := 3) (oi := _) (v := ?vr6_1_3) rfl (by kernel_rfl) (by kernel_rfl) (by kernel_rfl) ?hqr6_1_3 (Or.inl ⟨by kernel_rfl, ?hyr6_1_3⟩) (by assumption) ?restr6_1_3
    case hqr6_1_3 => exact fun _ _ _ h => h
    case hyr6_1_3 => (intro w hSw; (try dsimp only at hSw); go_simp; try with_reducible rfl)
    try simp only [Act.put, List.getElem_toArray, List.getElem_cons_succ, List.getElem_cons_zero, List.setIfInBounds_toArray, List.set_cons_zero, List.set_cons_succ]
    refine wpAnyH_take (i := 4) (oi := _) (v := ?vr6_1_4) rfl (by kernel_rfl) (by kernel_rfl) (by kernel_rfl) ?hqr6_1_4 (Or.inl ⟨by kernel_rfl, ?hyr6_1_4⟩) (by assumption) ?restr6_1_4
    case hqr6_1_4 => exact fun _ _ _ h => h
    case hyr6_1_4 => (intro w hSw; (try dsimp only at hSw); go_simp; try with_reducible rfl)
    try simp only [Act.put, List.getElem_toArray, List.getElem_cons_succ, List.getElem_cons_zero, List.setIfInBounds_toArray, List.set_cons_zero, List.set_cons_succ]
    refine wpAnyH_take (i := 5) (oi := _) (v := ?vr6_1_5) rfl (by kernel_rfl) (by kernel_rfl) (by kernel_rfl) ?hqr6_1_5 (Or.inl ⟨by kernel_rfl, ?hyr6_1_5⟩) (by assumption) ?restr6_1_5
    case hqr6_1_5 => exact fun _ _ _ h => h
    case hyr6_1_5 => (intro w hSw; (try dsimp only at hSw); go_simp; try with_reducible rfl)
    try simp only [Act.put, List.getElem_toArray, List.getElem_cons_succ, List.getElem_cons_zero, List.setIfInBounds_toArray, List.set_cons_zero, List.set_cons_succ]
    refine wpAnyH_take (i := 6) (oi := _) (v := ?vr6_1_6) rfl (by kernel_rfl) (by kernel_rfl) (by kernel_rfl) ?hqr6_1_6 (Or.inl ⟨by kernel_rfl, ?hyr6_1_6⟩) (by assumption) ?restr6_1_6
    case hqr6_1_6 => exact fun _ _ _ h => h
    case hyr6_1_6 => (intro w hSw; (try dsimp only at hSw); go_simp; try with_reducible rfl)
    try simp only [Act.put, List.getElem_toArray, List.getElem_cons_succ, List.getElem_cons_zero, List.setIfInBounds_toArray, List.set_cons_zero, List.set_cons_succ]
    refine wpAnyH_take (i := 7) (oi := _) (v := ?vr6_1_7) rfl (by kernel_rfl) (by kernel_rfl) (by kernel_rfl) ?hqr6_1_7 (Or.inl ⟨by kernel_rfl, ?hyr6_1_7⟩) (by assumption) ?restr6_1_7
    case hqr6_1_7 => exact fun _ _ _ h => h
    case hyr6_1_7 => (intro w hSw; (try dsimp only at hSw); go_simp; try with_reducible rfl)
    try simp only [Act.put, List.getElem_toArray, List.getElem_cons_succ, List.getElem_cons_zero, List.setIfInBounds_toArray, List.set_cons_zero, List.set_cons_succ]
    refine wpAnyH_take (i := 8) (oi := _) (v := ?vr6_1_8) rfl (by kernel_rfl) (by kernel_rfl) (by kernel_rfl) ?hqr6_1_8 (Or.inl ⟨by kernel_rfl, ?hyr6_1_8⟩) (by assumption) ?restr6_1_8
    case hqr6_1_8 => exact fun _ _ _ h => h
    case hyr6_1_8 => (intro w hSw; (try dsimp only at hSw); go_simp; try with_reducible rfl)
    try simp only [Act.put, List.getElem_toArray, List.getElem_cons_succ, List.getElem_cons_zero, List.setIfInBounds_toArray, List.set_cons_zero, List.set_cons_succ]
    refine wpAnyH_take (i := 9) (oi := _) (v := ?vr6_1_9) rfl (by kernel_rfl) (by kernel_rfl) (by kernel_rfl) ?hqr6_1_9 (Or.inl ⟨by kernel_rfl, ?hyr6_1_9⟩) (by assumption) ?restr6_1_9
    case hqr6_1_9 => exact fun _ _ _ h => h
    case hyr6_1_9 => (intro w hSw; (try dsimp only at hSw); go_simp; try with_reducible rfl)
    try simp only [Act.put, List.getElem_toArray, List.getElem_cons_succ, List.getElem_cons_zero, List.setIfInBounds_toArray, List.set_cons_zero, List.set_cons_succ]
    refine wpAnyH_done (by kernel_rfl) ?_ _
    refine NoPanic.normal ?_
    go_wp2
    go_ret
    refine ⟨?_, hb1.drew⟩
    have hz : (IntKind.u64.wrap (u * 281474976710656) / 281474976710656 == u) = decide (u ≤ 65535) := by
      rw [Bool.eq_iff_iff, beq_iff_eq, decide_eq_true_iff]
      simp [IntKind.wrap, IntKind.bits, IntKind.signed]
      omega
    exact congrArg (fun x => Ending.returned (Value.bool x)) hz
  · go_enter Tryz.func144, Tryz.ntmps144
    go_wp2
    obtain ⟨w1, hw1⟩ : ∃ w1, w1 = w.alloc (.cells #[.int .i64 k, .int .i64 n, .int .u64 u, .string b] 48) := ⟨_, rfl⟩
    rw [← hw1]
    have hb1 : Bel w w1 := by rw [hw1]; exact (Bel.refl w).alloc _
    have hc1 : w1.drew.cell? ⟨w.heap.size, 2, none⟩ = some (.int .u64 u) := by rw [hw1]; go_simp
    clear hw1
    refine wp_region_noPanic ?_
    refine wp_region_held_drew (S := (fun V : World => V.cell? ⟨w.heap.size, 2, none⟩ = some (.int .u64 u))) (by kernel_rfl) ?_ (fun hHr7_0 => ?_)
    · (try dsimp only); exact hc1
    refine wpAnyH_take (i := 0) (oi := _) (v := ?vr7_1_0) rfl (by kernel_rfl) (by kernel_rfl) (by kernel_rfl) ?hqr7_1_0 (Or.inl ⟨by kernel_rfl, ?hyr7_1_0⟩) (by assumption) ?restr7_1_0
    case hqr7_1_0 => exact fun _ _ _ h => h
    case hyr7_1_0 => (intro w hSw; (try dsimp only at hSw); go_simp; try with_reducible rfl)
    try simp only [Act.put, List.getElem_toArray, List.getElem_cons_succ, List.getElem_cons_zero, List.setIfInBounds_toArray, List.set_cons_zero, List.set_cons_succ]
    refine wpAnyH_take (i := 1) (oi := _) (v := ?vr7_1_1) rfl (by kernel_rfl) (by kernel_rfl) (by kernel_rfl) ?hqr7_1_1 (Or.inl ⟨by kernel_rfl, ?hyr7_1_1⟩) (by assumption) ?restr7_1_1
    case hqr7_1_1 => exact fun _ _ _ h => h
    case hyr7_1_1 => (intro w hSw; (try dsimp only at hSw); go_simp; try with_reducible rfl)
    try simp only [Act.put, List.getElem_toArray, List.getElem_cons_succ, List.getElem_cons_zero, List.setIfInBounds_toArray, List.set_cons_zero, List.set_cons_succ]
    refine wpAnyH_take (i := 2) (oi := _) (v := ?vr7_1_2) rfl (by kernel_rfl) (by kernel_rfl) (by kernel_rfl) ?hqr7_1_2 (Or.inl ⟨by kernel_rfl, ?hyr7_1_2⟩) (by assumption) ?restr7_1_2
    case hqr7_1_2 => exact fun _ _ _ h => h
    case hyr7_1_2 => (intro w hSw; (try dsimp only at hSw); go_simp; try with_reducible rfl)
    try simp only [Act.put, List.getElem_toArray, List.getElem_cons_succ, List.getElem_cons_zero, List.setIfInBounds_toArray, List.set_cons_zero, List.set_cons_succ]
    refine wpAnyH_take (i := 3) (oi := _) (v := ?vr7_1_3) rfl (by kernel_rfl) (by kernel_rfl) (by kernel_rfl) ?hqr7_1_3 (Or.inl ⟨by kernel_rfl, ?hyr7_1_3⟩) (by assumption) ?restr7_1_3
    case hqr7_1_3 => exact fun _ _ _ h => h
    case hyr7_1_3 => (intro w hSw; (try dsimp only at hSw); go_simp; try with_reducible rfl)
    try simp only [Act.put, List.getElem_toArray, List.getElem_cons_succ, List.getElem_cons_zero, List.setIfInBounds_toArray, List.set_cons_zero, List.set_cons_succ]
    refine wpAnyH_take (i := 4) (oi := _) (v := ?vr7_1_4) rfl (by kernel_rfl) (by kernel_rfl) (by kernel_rfl) ?hqr7_1_4 (Or.inl ⟨by kernel_rfl, ?hyr7_1_4⟩) (by assumption) ?restr7_1_4
    case hqr7_1_4 => exact fun _ _ _ h => h
    case hyr7_1_4 => (intro w hSw; (try dsimp only at hSw); go_simp; try with_reducible rfl)
    try simp only [Act.put, List.getElem_toArray, List.getElem_cons_succ, List.getElem_cons_zero, List.setIfInBounds_toArray, List.set_cons_zero, List.set_cons_succ]
    refine wpAnyH_take (i := 5) (oi := _) (v := ?vr7_1_5) rfl (by kernel_rfl) (by kernel_rfl) (by kernel_rfl) ?hqr7_1_5 (Or.inl ⟨by kernel_rfl, ?hyr7_1_5⟩) (by assumption) ?restr7_1_5
    case hqr7_1_5 => exact fun _ _ _ h => h
    case hyr7_1_5 => (intro w hSw; (try dsimp only at hSw); go_simp; try with_reducible rfl)
    try simp only [Act.put, List.getElem_toArray, List.getElem_cons_succ, List.getElem_cons_zero, List.setIfInBounds_toArray, List.set_cons_zero, List.set_cons_succ]
    refine wpAnyH_take (i := 6) (oi := _) (v := ?vr7_1_6) rfl (by kernel_rfl) (by kernel_rfl) (by kernel_rfl) ?hqr7_1_6 (Or.inl ⟨by kernel_rfl, ?hyr7_1_6⟩) (by assumption) ?restr7_1_6
    case hqr7_1_6 => exact fun _ _ _ h => h
    case hyr7_1_6 => (intro w hSw; (try dsimp only at hSw); go_simp; try with_reducible rfl)
    try simp only [Act.put, List.getElem_toArray, List.getElem_cons_succ, List.getElem_cons_zero, List.setIfInBounds_toArray, List.set_cons_zero, List.set_cons_succ]
    refine wpAnyH_take (i := 7) (oi := _) (v := ?vr7_1_7) rfl (by kernel_rfl) (by kernel_rfl) (by kernel_rfl) ?hqr7_1_7 (Or.inl ⟨by kernel_rfl, ?hyr7_1_7⟩) (by assumption) ?restr7_1_7
    case hqr7_1_7 => exact fun _ _ _ h => h
    case hyr7_1_7 => (intro w hSw; (try dsimp only at hSw); go_simp; try with_reducible rfl)
    try simp only [Act.put, List.getElem_toArray, List.getElem_cons_succ, List.getElem_cons_zero, List.setIfInBounds_toArray, List.set_cons_zero, List.set_cons_succ]
    refine wpAnyH_take (i := 8) (oi := _) (v := ?vr7_1_8) rfl (by kernel_rfl) (by kernel_rfl) (by kernel_rfl) ?hqr7_1_8 (Or.inl ⟨by kernel_rfl, ?hyr7_1_8⟩) (by assumption) ?restr7_1_8
    case hqr7_1_8 => exact fun _ _ _ h => h
    case hyr7_1_8 => (intro w hSw; (try dsimp only at hSw); go_simp; try with_reducible rfl)
    try simp only [Act.put, List.getElem_toArray, List.getElem_cons_succ, List.getElem_cons_zero, List.setIfInBounds_toArray, List.set_cons_zero, List.set_cons_succ]
    refine wpAnyH_take (i := 9) (oi := _) (v := ?vr7_1_9) rfl (by kernel_rfl) (by kernel_rfl) (by kernel_rfl) ?hqr7_1_9 (Or.inl ⟨by kernel_rfl, ?hyr7_1_9⟩) (by assumption) ?restr7_1_9
    case hqr7_1_9 => exact fun _ _ _ h => h
    case hyr7_1_9 => (intro w hSw; (try dsimp only at hSw); go_simp; try with_reducible rfl)
    try simp only [Act.put, List.getElem_toArray, List.getElem_cons_succ, List.getElem_cons_zero, List.setIfInBounds_toArray, List.set_cons_zero, List.set_cons_succ]
    refine wpAnyH_done (by kernel_rfl) ?_ _
    refine NoPanic.normal ?_
    go_wp2
    go_ret
    refine ⟨?_, hb1.drew⟩
    have hz : (IntKind.u64.wrap (u * 4294967296) / 4294967296 == u) = decide (u ≤ 4294967295) := by
      rw [Bool.eq_iff_iff, beq_iff_eq, decide_eq_true_iff]
      simp [IntKind.wrap, IntKind.bits, IntKind.signed]
      omega
    exact congrArg (fun x => Ending.returned (Value.bool x)) hz
  · go_enter Tryz.func144, Tryz.ntmps144
    go_wp2
    obtain ⟨w1, hw1⟩ : ∃ w1, w1 = w.alloc (.cells #[.int .i64 k, .int .i64 n, .int .u64 u, .string b] 48) := ⟨_, rfl⟩
    rw [← hw1]
    have hb1 : Bel w w1 := by rw [hw1]; exact (Bel.refl w).alloc _
    have hc1 : w1.drew.cell? ⟨w.heap.size, 2, none⟩ = some (.int .u64 u) := by rw [hw1]; go_simp
    clear hw1
    refine wp_region_noPanic ?_
    refine wp_region_held_drew (S := (fun V : World => V.cell? ⟨w.heap.size, 2, none⟩ = some (.int .u64 u))) (by kernel_rfl) ?_ (fun hHr8_0 => ?_)
    · (try dsimp only); exact hc1
    refine wpAnyH_take (i := 0) (oi := _) (v := ?vr8_1_0) rfl (by kernel_rfl) (by kernel_rfl) (by kernel_rfl) ?hqr8_1_0 (Or.inl ⟨by kernel_rfl, ?hyr8_1_0⟩) (by assumption) ?restr8_1_0
    case hqr8_1_0 => exact fun _ _ _ h => h
    case hyr8_1_0 => (intro w hSw; (try dsimp only at hSw); go_simp; try with_reducible rfl)
    try simp only [Act.put, List.getElem_toArray, List.getElem_cons_succ, List.getElem_cons_zero, List.setIfInBounds_toArray, List.set_cons_zero, List.set_cons_succ]
    refine wpAnyH_take (i := 1) (oi := _) (v := ?vr8_1_1) rfl (by kernel_rfl) (by kernel_rfl) (by kernel_rfl) ?hqr8_1_1 (Or.inl ⟨by kernel_rfl, ?hyr8_1_1⟩) (by assumption) ?restr8_1_1
    case hqr8_1_1 => exact fun _ _ _ h => h
    case hyr8_1_1 => (intro w hSw; (try dsimp only at hSw); go_simp; try with_reducible rfl)
    try simp only [Act.put, List.getElem_toArray, List.getElem_cons_succ, List.getElem_cons_zero, List.setIfInBounds_toArray, List.set_cons_zero, List.set_cons_succ]
    refine wpAnyH_take (i := 2) (oi := _) (v := ?vr8_1_2) rfl (by kernel_rfl) (by kernel_rfl) (by kernel_rfl) ?hqr8_1_2 (Or.inl ⟨by kernel_rfl, ?hyr8_1_2⟩) (by assumption) ?restr8_1_2
    case hqr8_1_2 => exact fun _ _ _ h => h
    case hyr8_1_2 => (intro w hSw; (try dsimp only at hSw); go_simp; try with_reducible rfl)
    try simp only [Act.put, List.getElem_toArray, List.getElem_cons_succ, List.getElem_cons_zero, List.setIfInBounds_toArray, List.set_cons_zero, List.set_cons_succ]
    refine wpAnyH_take (i := 3) (oi := _) (v := ?vr8_1_3) rfl (by kernel_rfl) (by kernel_rfl) (by kernel_rfl) ?hqr8_1_3 (Or.inl ⟨by kernel_rfl, ?hyr8_1_3⟩) (by assumption) ?restr8_1_3
    case hqr8_1_3 => exact fun _ _ _ h => h
    case hyr8_1_3 => (intro w hSw; (try dsimp only at hSw); go_simp; try with_reducible rfl)
    try simp only [Act.put, List.getElem_toArray, List.getElem_cons_succ, List.getElem_cons_zero, List.setIfInBounds_toArray, List.set_cons_zero, List.set_cons_succ]
    refine wpAnyH_take (i := 4) (oi := _) (v := ?vr8_1_4) rfl (by kernel_rfl) (by kernel_rfl) (by kernel_rfl) ?hqr8_1_4 (Or.inl ⟨by kernel_rfl, ?hyr8_1_4⟩) (by assumption) ?restr8_1_4
    case hqr8_1_4 => exact fun _ _ _ h => h
    case hyr8_1_4 => (intro w hSw; (try dsimp only at hSw); go_simp; try with_reducible rfl)
    try simp only [Act.put, List.getElem_toArray, List.getElem_cons_succ, List.getElem_cons_zero, List.setIfInBounds_toArray, List.set_cons_zero, List.set_cons_succ]
    refine wpAnyH_take (i := 5) (oi := _) (v := ?vr8_1_5) rfl (by kernel_rfl) (by kernel_rfl) (by kernel_rfl) ?hqr8_1_5 (Or.inl ⟨by kernel_rfl, ?hyr8_1_5⟩) (by assumption) ?restr8_1_5
    case hqr8_1_5 => exact fun _ _ _ h => h
    case hyr8_1_5 => (intro w hSw; (try dsimp only at hSw); go_simp; try with_reducible rfl)
    try simp only [Act.put, List.getElem_toArray, List.getElem_cons_succ, List.getElem_cons_zero, List.setIfInBounds_toArray, List.set_cons_zero, List.set_cons_succ]
    refine wpAnyH_take (i := 6) (oi := _) (v := ?vr8_1_6) rfl (by kernel_rfl) (by kernel_rfl) (by kernel_rfl) ?hqr8_1_6 (Or.inl ⟨by kernel_rfl, ?hyr8_1_6⟩) (by assumption) ?restr8_1_6
    case hqr8_1_6 => exact fun _ _ _ h => h
    case hyr8_1_6 => (intro w hSw; (try dsimp only at hSw); go_simp; try with_reducible rfl)
    try simp only [Act.put, List.getElem_toArray, List.getElem_cons_succ, List.getElem_cons_zero, List.setIfInBounds_toArray, List.set_cons_zero, List.set_cons_succ]
    refine wpAnyH_take (i := 7) (oi := _) (v := ?vr8_1_7) rfl (by kernel_rfl) (by kernel_rfl) (by kernel_rfl) ?hqr8_1_7 (Or.inl ⟨by kernel_rfl, ?hyr8_1_7⟩) (by assumption) ?restr8_1_7
    case hqr8_1_7 => exact fun _ _ _ h => h
    case hyr8_1_7 => (intro w hSw; (try dsimp only at hSw); go_simp; try with_reducible rfl)
    try simp only [Act.put, List.getElem_toArray, List.getElem_cons_succ, List.getElem_cons_zero, List.setIfInBounds_toArray, List.set_cons_zero, List.set_cons_succ]
    refine wpAnyH_take (i := 8) (oi := _) (v := ?vr8_1_8) rfl (by kernel_rfl) (by kernel_rfl) (by kernel_rfl) ?hqr8_1_8 (Or.inl ⟨by kernel_rfl, ?hyr8_1_8⟩) (by assumption) ?restr8_1_8
    case hqr8_1_8 => exact fun _ _ _ h => h
    case hyr8_1_8 => (intro w hSw; (try dsimp only at hSw); go_simp; try with_reducible rfl)
    try simp only [Act.put, List.getElem_toArray, List.getElem_cons_succ, List.getElem_cons_zero, List.setIfInBounds_toArray, List.set_cons_zero, List.set_cons_succ]
    refine wpAnyH_take (i := 9) (oi := _) (v := ?vr8_1_9) rfl (by kernel_rfl) (by kernel_rfl) (by kernel_rfl) ?hqr8_1_9 (Or.inl ⟨by kernel_rfl, ?hyr8_1_9⟩) (by assumption) ?restr8_1_9
    case hqr8_1_9 => exact fun _ _ _ h => h
    case hyr8_1_9 => (intro w hSw; (try dsimp only at hSw); go_simp; try with_reducible rfl)
    try simp only [Act.put, List.getElem_toArray, List.getElem_cons_succ, List.getElem_cons_zero, List.setIfInBounds_toArray, List.set_cons_zero, List.set_cons_succ]
    refine wpAnyH_done (by kernel_rfl) ?_ _
    refine NoPanic.normal ?_
    go_wp2
    go_ret
    refine ⟨?_, hb1.drew⟩
    have hz : (IntKind.u64.wrap u == u) = decide (u ≤ 18446744073709551615) := by
      rw [Bool.eq_iff_iff, beq_iff_eq, decide_eq_true_iff]
      simp [IntKind.wrap, IntKind.bits, IntKind.signed]
      omega
    exact congrArg (fun x => Ending.returned (Value.bool x)) hz
theorem sckd_any (z : Int) (x : Val) (w : World) : Calls Tryz.prog 146 #[.int .i64 z, x.v] w fun e w' => e = .returned (.bool true) ∧ Bel w w' := by
  obtain ⟨k, n, u, b⟩ := x
  unfold Val.v
  dsimp only
  go_enter Tryz.func146, Tryz.ntmps146
  go_wp2
  go_ret
  exact ⟨rfl, by (repeat (first | exact Below.refl _ _ | assumption | exact Bel.refl _ | refine Bel.alloc ?_ _ | refine Bel.drew ?_ | refine Bel.drewN ?_ _ | refine Bel.then_ ?_ (by assumption) | refine Bel.setCell ?_ (by first | (simp; done) | (simp; omega)) _))⟩
theorem sckf_any (z : Int) (x : Val) (w : World) : Calls Tryz.prog 148 #[.int .i64 z, x.v] w fun e w' => e = .returned (.bool (decide ((x.b.size : Int) ≤ z))) ∧ Bel w w' := by
  obtain ⟨k, n, u, b⟩ := x
  unfold Val.v
  dsimp only
  go_enter Tryz.func148, Tryz.ntmps148
  go_wp2
  go_ret
  exact ⟨rfl, by (repeat (first | exact Below.refl _ _ | assumption | exact Bel.refl _ | refine Bel.alloc ?_ _ | refine Bel.drew ?_ | refine Bel.drewN ?_ _ | refine Bel.then_ ?_ (by assumption) | refine Bel.setCell ?_ (by first | (simp; done) | (simp; omega)) _))⟩
theorem skLook1 {t : Int} (h1 : 1 ≤ t) (h4 : t ≤ 4) {b : Nat} {V : World} (hb : V.heap[b]? = some (.map skMap 4)) :
    (Instr.lookup 157 (.map (some b)) (.int .i64 t) false).run Tryz.prog V = .ok (skOf t) V := by
  have hc : t = 1 ∨ t = 2 ∨ t = 3 ∨ t = 4 := by omega
  rcases hc with rfl | rfl | rfl | rfl
  · exact run_lookup_int (k := .i64) Tryz.underlying157 Tryz.underlying42 (i := 0) rfl hb
  · exact run_lookup_int (k := .i64) Tryz.underlying157 Tryz.underlying42 (i := 1) rfl hb
  · exact run_lookup_int (k := .i64) Tryz.underlying157 Tryz.underlying42 (i := 2) rfl hb
  · exact run_lookup_int (k := .i64) Tryz.underlying157 Tryz.underlying42 (i := 3) rfl hb
theorem skFit_is {t : Int} (h1 : 1 ≤ t) (h4 : t ≤ 4) : ∃ f g, skOf t = skV f g t ∧ (∀ args w, (callFunc g args).run Tryz.prog w = .ok (.enter g args) w) ∧
    ∀ z, sizeB t z = true → ∀ x : Val, x.Wf → ∀ w, Calls Tryz.prog g #[.int .i64 z, x.v] w fun e w' => e = .returned (.bool (fitB t z x)) ∧ Bel w w' := by
  have hc : t = 1 ∨ t = 2 ∨ t = 3 ∨ t = 4 := by omega
  rcases hc with rfl | rfl | rfl | rfl
  · exact ⟨_, _, rfl, enters_of Tryz.func143 (by kernel_rfl) rfl, fun z hz x hx w => scka_any z (of_decide_eq_true hz) x hx w⟩
  · exact ⟨_, _, rfl, enters_of Tryz.func144 (by kernel_rfl) rfl, fun z hz x hx w => sckb_any z (of_decide_eq_true hz) x hx w⟩
  · exact ⟨_, _, rfl, enters_of Tryz.func146 (by kernel_rfl) rfl, fun z hz x hx w => sckd_any z x w⟩
  · exact ⟨_, _, rfl, enters_of Tryz.func148 (by kernel_rfl) rfl, fun z hz x hx w => sckf_any z x w⟩
def fitsI (c : Col) (x : Val) : Int := if rightB c = false then 2 else if checkI x ≠ 0 then checkI x else if x.k = 0 then (if c.null then 0 else 131) else if x.k ≠ c.t then 132 else if fitB c.t c.z x = false then 133 else 0
/-- An error as the schema makes it: none, or a fault of this number. -/
def SErr (w : World) (v : Value) (k : Int) : Prop := (k = 0 ∧ v = .nilIface) ∨ (k ≠ 0 ∧ ∃ p, v = .iface 149 (.pointer (some ⟨p, 0, none⟩)) ∧ SFaultAt w p k)
theorem SErr.bel {w w' : World} {v : Value} {k : Int} (h : SErr w v k) (hb : Bel w w') : SErr w' v k := by
  rcases h with h | ⟨h1, p, h2, h3⟩
  · exact .inl h
  · exact .inr ⟨h1, p, h2, h3.bel hb⟩
theorem scnumber_any {w : World} {v : Value} {k : Int} (hg : ErrType w) (h : SErr w v k) : Calls Tryz.prog 52 #[v] w fun e w' => e = .returned (.int .i64 k) ∧ Bel w w' := by
  rcases h with ⟨rfl, rfl⟩ | ⟨h1, p, rfl, h3⟩
  · exact scnumber_nil w
  · exact scnumber_fault p k w hg h3
set_option maxRecDepth 100000 in
set_option maxHeartbeats 4000000 in
theorem scfits_any (c : Col) (x : Val) (hx : x.Wf) (w : World) : Calls Tryz.prog 55 #[c.v, x.v] w fun e w' => ∃ v, e = .returned v ∧ SErr w' v (fitsI c x) ∧ Bel w w' := by
  have HRI := Lib.hid (fun V => scright_any c V)
  have HCH := Lib.hid (fun V => vCheck_any x V)
  have HF : Hid (∀ i, i = fitsI c x → SErr w .nilIface i ∨ True) := fun _ _ => .inr trivial
  obtain ⟨R, hR⟩ : ∃ R, R = fitsI c x := ⟨_, rfl⟩
  rw [← hR]
  have HR := Lib.hid hR
  clear hR HF
  obtain ⟨rb, hrb⟩ : ∃ rb, rb = rightB c := ⟨_, rfl⟩
  rw [← hrb] at HRI
  have HRB := Lib.hid hrb
  obtain ⟨ci, hci⟩ : ∃ ci, ci = checkI x := ⟨_, rfl⟩
  rw [← hci] at HCH
  have HCI := Lib.hid hci
  clear hrb hci
  obtain ⟨name, t, z, null⟩ := c
  obtain ⟨k, n, u, b⟩ := x
  unfold Val.v Col.v at *
  dsimp only at *
  have HCL : Hid (∀ V, Bel ((w.alloc (.cells #[.string name, .int .i64 t, .int .i64 z, .bool null] 44)).alloc (.cells #[.int .i64 k, .int .i64 n, .int .u64 u, .string b] 48)) V →
    (V.cell? ⟨w.heap.size, 0, none⟩ = some (.string name) ∧ V.cell? ⟨w.heap.size, 1, none⟩ = some (.int .i64 t) ∧ V.cell? ⟨w.heap.size, 2, none⟩ = some (.int .i64 z) ∧ V.cell? ⟨w.heap.size, 3, none⟩ = some (.bool null) ∧
     V.cell? ⟨w.heap.size + 1, 0, none⟩ = some (.int .i64 k) ∧ V.cell? ⟨w.heap.size + 1, 1, none⟩ = some (.int .i64 n) ∧ V.cell? ⟨w.heap.size + 1, 2, none⟩ = some (.int .u64 u) ∧ V.cell? ⟨w.heap.size + 1, 3, none⟩ = some (.string b)) ∧ Bel w V) :=
    fun V h => ⟨⟨h.c (by go_simp), h.c (by go_simp), h.c (by go_simp), h.c (by go_simp), h.c (by go_simp), h.c (by go_simp), h.c (by go_simp), h.c (by go_simp)⟩, (((Bel.refl w).alloc _).alloc _).then_ h⟩
  have HLD : Hid (∀ V : World, V.cell? ⟨w.heap.size, 0, none⟩ = some (.string name) ∧ V.cell? ⟨w.heap.size, 1, none⟩ = some (.int .i64 t) → True) := fun _ _ => trivial
  clear HLD
  cases rb
  · have hR2 : R = 2 := by rw [HR.out]; unfold fitsI; rw [if_pos HRB.out.symm]
    go_enter Tryz.func55, Tryz.ntmps55
    go_wp2_with (go_at_call 96; refine (HRI.out _).mono ?_; rintro e w4 ⟨rfl, hb4⟩; obtain ⟨⟨a0, a1, a2, a3, c0, c1, c2, c3⟩, hB4⟩ := HCL.out _ hb4)
    go_ret
    exact ⟨_, rfl, .inr ⟨by omega, _, rfl, _, by rw [hR2]; exact World.alloc_heap_new _ _⟩, hB4.alloc _⟩
  · by_cases hc0 : ci = 0
    · subst hc0
      have HT : Hid (1 ≤ t ∧ t ≤ 4) := by show _ ∧ _; have h := HRB.out; unfold rightB at h; simp at h; exact h.1.1
      have HSZ : Hid (sizeB t z = true) := by show _ = _; have h := HRB.out; unfold rightB at h; simp at h; exact h.2
      go_enter Tryz.func55, Tryz.ntmps55
      go_wp2_with (first | (go_at_call 96; refine (HRI.out _).mono ?_; rintro e w4 ⟨rfl, hb4⟩; obtain ⟨⟨a0, a1, a2, a3, c0, c1, c2, c3⟩, hB4⟩ := HCL.out _ hb4) | (go_at_call 97; refine (HCH.out _).mono ?_; rintro e w5 ⟨rfl, hb5⟩; obtain ⟨⟨d0, d1, d2, d3, e0, e1, e2, e3⟩, hB5⟩ := HCL.out _ (hb4.then_ hb5)))
      obtain ⟨f, g, hsk, egg, hfit⟩ := skFit_is HT.out.1 HT.out.2
      have HLO := Lib.hid (fun (b : Nat) (V : World) (hb : V.heap[b]? = some (.map skMap 4)) => skLook1 HT.out.1 HT.out.2 hb)
      rw [hsk] at HLO
      unfold skV at HLO
      have HGF := Lib.hid (fun V => hfit z HSZ.out ⟨k, n, u, b⟩ hx V)
      clear hfit hsk hx
      obtain ⟨fb, hfb⟩ : ∃ fb, fb = fitB t z ⟨k, n, u, b⟩ := ⟨_, rfl⟩
      rw [← hfb] at HGF
      have HFB := Lib.hid hfb
      clear hfb
      have HB45 := Lib.hid (hb4.then_ hb5)
      have hS : ∀ V, Bel w5 V → (Bel w5 V ∧ V.cell? ⟨w.heap.size, 1, none⟩ = some (.int .i64 t)) := fun V h => ⟨h, h.c d1⟩
      clear a0 a1 a2 a3 c0 c1 c2 c3 hB4 hb4 hb5
      apply wp_cut2 (R := fun bm bx V => Bel w5 V ∧ V.cell? ⟨bx, 1, none⟩ = some (.int .i64 t) ∧ V.cell? ⟨bx, 2, none⟩ = some (.func (.func g) #[] #[]))
      case h =>
        refine wp_region_noPanic ?_
        refine wp_region_held_drew (S := (fun V : World => Bel w5 V ∧ V.cell? ⟨w.heap.size, 1, none⟩ = some (.int .i64 t))) (by kernel_rfl) ?_ (fun hHr9_0 => ?_)
        · (try dsimp only); (first | assumption | exact hS _ (Bel.refl w5).drew | exact hS _ hB2 | exact hS _ (Bel.alloc hB2 _) | exact hS _ (Bel.alloc (Bel.refl w5).drew _) | exact hS _ (Bel.setCell (Bel.setCell (Bel.setCell hB2 (Nat.le_refl _) _) (Nat.le_refl _) _) (Nat.le_refl _) _))
        refine wpAnyH_take (i := 1) (oi := _) (v := ?vr9_1_1) rfl (by kernel_rfl) (by kernel_rfl) (by kernel_rfl) ?hqr9_1_1 (Or.inl ⟨by kernel_rfl, ?hyr9_1_1⟩) (by assumption) ?restr9_1_1
        case hqr9_1_1 => exact fun _ _ _ h => h
        case hyr9_1_1 => (intro w hSw; (try dsimp only at hSw); go_simp; try with_reducible rfl)
        try simp only [Act.put, List.getElem_toArray, List.getElem_cons_succ, List.getElem_cons_zero, List.setIfInBounds_toArray, List.set_cons_zero, List.set_cons_succ]
        refine wpAnyH_take (i := 2) (oi := _) (v := ?vr9_1_2) rfl (by kernel_rfl) (by kernel_rfl) (by kernel_rfl) ?hqr9_1_2 (Or.inl ⟨by kernel_rfl, ?hyr9_1_2⟩) (by assumption) ?restr9_1_2
        case hqr9_1_2 => exact fun _ _ _ h => h
        case hyr9_1_2 => (intro w hSw; (try dsimp only at hSw); go_simp; try with_reducible rfl)
        try simp only [Act.put, List.getElem_toArray, List.getElem_cons_succ, List.getElem_cons_zero, List.setIfInBounds_toArray, List.set_cons_zero, List.set_cons_succ]
        refine wpAnyH_ready (rs := [0, 4]) (by kernel_rfl) (by simp) ?_
        refine AllReadyH.cons (o := _) rfl (fun K hK => ?_) (AllReadyH.cons (o := _) rfl (fun K hK => ?_) (AllReadyH.nil))
        · go_simp
          (go_at_call 98; refine (sckinds_any _).mono ?_; rintro e w2 ⟨bm, rfl, hm, hb2⟩; have hB2 : Bel w5 w2 := Bel.then_ (Bel.refl w5).drew hb2)
          try (go_wp2_with fail)
          refine hK.out _ _ ?_ (fun hHr9_1 => ?_)
          · (try dsimp only); (first | assumption | exact hS _ (Bel.refl w5).drew | exact hS _ hB2 | exact hS _ (Bel.alloc hB2 _) | exact hS _ (Bel.alloc (Bel.refl w5).drew _) | exact hS _ (Bel.setCell (Bel.setCell (Bel.setCell hB2 (Nat.le_refl _) _) (Nat.le_refl _) _) (Nat.le_refl _) _))
          clear hK K hHr9_0
          try simp only [Act.put, List.getElem_toArray, List.getElem_cons_succ, List.getElem_cons_zero, List.setIfInBounds_toArray, List.set_cons_zero, List.set_cons_succ]
          refine wpAnyH_ready (rs := [3, 4]) (by kernel_rfl) (by simp) ?_
          refine AllReadyH.cons (o := _) rfl (fun K hK => ?_) (AllReadyH.cons (o := _) rfl (fun K hK => ?_) (AllReadyH.nil))
          · go_simp
            ((have hlk := HLO.out bm _ hm); go_simp)
            refine hK.out _ _ ?_ (fun hHr9_2 => ?_)
            · (try dsimp only); (first | assumption | exact hS _ (Bel.refl w5).drew | exact hS _ hB2 | exact hS _ (Bel.alloc hB2 _) | exact hS _ (Bel.alloc (Bel.refl w5).drew _) | exact hS _ (Bel.setCell (Bel.setCell (Bel.setCell hB2 (Nat.le_refl _) _) (Nat.le_refl _) _) (Nat.le_refl _) _))
            clear hK K hHr9_1
            try simp only [Act.put, List.getElem_toArray, List.getElem_cons_succ, List.getElem_cons_zero, List.setIfInBounds_toArray, List.set_cons_zero, List.set_cons_succ]
            refine wpAnyH_ready (rs := [4]) (by kernel_rfl) (by simp) ?_
            refine AllReadyH.cons (o := _) rfl (fun K hK => ?_) AllReadyH.nil
            go_simp
            refine hK.out _ _ ?_ (fun hHr9_3 => ?_)
            · (try dsimp only); (first | assumption | exact hS _ (Bel.refl w5).drew | exact hS _ hB2 | exact hS _ (Bel.alloc hB2 _) | exact hS _ (Bel.alloc (Bel.refl w5).drew _) | exact hS _ (Bel.setCell (Bel.setCell (Bel.setCell hB2 (Nat.le_refl _) _) (Nat.le_refl _) _) (Nat.le_refl _) _))
            clear hK K hHr9_2
            try simp only [Act.put, List.getElem_toArray, List.getElem_cons_succ, List.getElem_cons_zero, List.setIfInBounds_toArray, List.set_cons_zero, List.set_cons_succ]
            refine wpAnyH_ready (rs := [5]) (by kernel_rfl) (by simp) ?_
            refine AllReadyH.cons (o := _) rfl (fun K hK => ?_) AllReadyH.nil
            go_simp
            refine hK.out _ _ ?_ (fun hHr9_4 => ?_)
            · (try dsimp only); (first | assumption | exact hS _ (Bel.refl w5).drew | exact hS _ hB2 | exact hS _ (Bel.alloc hB2 _) | exact hS _ (Bel.alloc (Bel.refl w5).drew _) | exact hS _ (Bel.setCell (Bel.setCell (Bel.setCell hB2 (Nat.le_refl _) _) (Nat.le_refl _) _) (Nat.le_refl _) _))
            clear hK K hHr9_3
            try simp only [Act.put, List.getElem_toArray, List.getElem_cons_succ, List.getElem_cons_zero, List.setIfInBounds_toArray, List.set_cons_zero, List.set_cons_succ]
            refine wpAnyH_done (by kernel_rfl) ?_ _
            refine NoPanic.normal ?_
            (refine ⟨bm, w2.heap.size, rfl, ?_, hHr9_4.1, by go_simp, by go_simp⟩; generalize w2.heap.size = bx; exact rfl)
          · go_simp
            refine hK.out _ _ ?_ (fun hHr9_2 => ?_)
            · (try dsimp only); (first | assumption | exact hS _ (Bel.refl w5).drew | exact hS _ hB2 | exact hS _ (Bel.alloc hB2 _) | exact hS _ (Bel.alloc (Bel.refl w5).drew _) | exact hS _ (Bel.setCell (Bel.setCell (Bel.setCell hB2 (Nat.le_refl _) _) (Nat.le_refl _) _) (Nat.le_refl _) _))
            clear hK K hHr9_1
            try simp only [Act.put, List.getElem_toArray, List.getElem_cons_succ, List.getElem_cons_zero, List.setIfInBounds_toArray, List.set_cons_zero, List.set_cons_succ]
            refine wpAnyH_ready (rs := [3]) (by kernel_rfl) (by simp) ?_
            refine AllReadyH.cons (o := _) rfl (fun K hK => ?_) AllReadyH.nil
            go_simp
            ((have hlk := HLO.out bm _ (((Bel.refl w2).alloc (.cells #[.nilFunc, .int .i64 0, .nilFunc] 156)).deferred hm)); go_simp)
            refine hK.out _ _ ?_ (fun hHr9_3 => ?_)
            · (try dsimp only); (first | assumption | exact hS _ (Bel.refl w5).drew | exact hS _ hB2 | exact hS _ (Bel.alloc hB2 _) | exact hS _ (Bel.alloc (Bel.refl w5).drew _) | exact hS _ (Bel.setCell (Bel.setCell (Bel.setCell hB2 (Nat.le_refl _) _) (Nat.le_refl _) _) (Nat.le_refl _) _))
            clear hK K hHr9_2
            try simp only [Act.put, List.getElem_toArray, List.getElem_cons_succ, List.getElem_cons_zero, List.setIfInBounds_toArray, List.set_cons_zero, List.set_cons_succ]
            refine wpAnyH_ready (rs := [5]) (by kernel_rfl) (by simp) ?_
            refine AllReadyH.cons (o := _) rfl (fun K hK => ?_) AllReadyH.nil
            go_simp
            refine hK.out _ _ ?_ (fun hHr9_4 => ?_)
            · (try dsimp only); (first | assumption | exact hS _ (Bel.refl w5).drew | exact hS _ hB2 | exact hS _ (Bel.alloc hB2 _) | exact hS _ (Bel.alloc (Bel.refl w5).drew _) | exact hS _ (Bel.setCell (Bel.setCell (Bel.setCell hB2 (Nat.le_refl _) _) (Nat.le_refl _) _) (Nat.le_refl _) _))
            clear hK K hHr9_3
            try simp only [Act.put, List.getElem_toArray, List.getElem_cons_succ, List.getElem_cons_zero, List.setIfInBounds_toArray, List.set_cons_zero, List.set_cons_succ]
            refine wpAnyH_done (by kernel_rfl) ?_ _
            refine NoPanic.normal ?_
            (refine ⟨bm, w2.heap.size, rfl, ?_, hHr9_4.1, by go_simp, by go_simp⟩; generalize w2.heap.size = bx; exact rfl)
        · go_simp
          refine hK.out _ _ ?_ (fun hHr9_1 => ?_)
          · (try dsimp only); (first | assumption | exact hS _ (Bel.refl w5).drew | exact hS _ hB2 | exact hS _ (Bel.alloc hB2 _) | exact hS _ (Bel.alloc (Bel.refl w5).drew _) | exact hS _ (Bel.setCell (Bel.setCell (Bel.setCell hB2 (Nat.le_refl _) _) (Nat.le_refl _) _) (Nat.le_refl _) _))
          clear hK K hHr9_0
          try simp only [Act.put, List.getElem_toArray, List.getElem_cons_succ, List.getElem_cons_zero, List.setIfInBounds_toArray, List.set_cons_zero, List.set_cons_succ]
          refine wpAnyH_ready (rs := [0]) (by kernel_rfl) (by simp) ?_
          refine AllReadyH.cons (o := _) rfl (fun K hK => ?_) AllReadyH.nil
          go_simp
          (go_at_call 98; refine (sckinds_any _).mono ?_; rintro e w2 ⟨bm, rfl, hm, hb2⟩; have hB2 : Bel w5 w2 := Bel.then_ (Bel.alloc (Bel.refl w5).drew _) hb2; have z0 : w2.cell? ⟨w5.heap.size, 0, none⟩ = some .nilFunc := hb2.c (by go_simp); have y0 : w2.frozen? ⟨w5.heap.size, 0, none⟩ = false := (Below.frozen hb2 (by simp)).trans (by go_simp); have z1 : w2.cell? ⟨w5.heap.size, 1, none⟩ = some (.int .i64 0) := hb2.c (by go_simp); have y1 : w2.frozen? ⟨w5.heap.size, 1, none⟩ = false := (Below.frozen hb2 (by simp)).trans (by go_simp); have z2 : w2.cell? ⟨w5.heap.size, 2, none⟩ = some .nilFunc := hb2.c (by go_simp); have y2 : w2.frozen? ⟨w5.heap.size, 2, none⟩ = false := (Below.frozen hb2 (by simp)).trans (by go_simp))
          try (go_wp2_with fail)
          refine hK.out _ _ ?_ (fun hHr9_2 => ?_)
          · (try dsimp only); (first | assumption | exact hS _ (Bel.refl w5).drew | exact hS _ hB2 | exact hS _ (Bel.alloc hB2 _) | exact hS _ (Bel.alloc (Bel.refl w5).drew _) | exact hS _ (Bel.setCell (Bel.setCell (Bel.setCell hB2 (Nat.le_refl _) _) (Nat.le_refl _) _) (Nat.le_refl _) _))
          clear hK K hHr9_1
          try simp only [Act.put, List.getElem_toArray, List.getElem_cons_succ, List.getElem_cons_zero, List.setIfInBounds_toArray, List.set_cons_zero, List.set_cons_succ]
          refine wpAnyH_ready (rs := [3]) (by kernel_rfl) (by simp) ?_
          refine AllReadyH.cons (o := _) rfl (fun K hK => ?_) AllReadyH.nil
          go_simp
          ((have hlk := HLO.out bm _ hm); go_simp)
          refine hK.out _ _ ?_ (fun hHr9_3 => ?_)
          · (try dsimp only); (first | assumption | exact hS _ (Bel.refl w5).drew | exact hS _ hB2 | exact hS _ (Bel.alloc hB2 _) | exact hS _ (Bel.alloc (Bel.refl w5).drew _) | exact hS _ (Bel.setCell (Bel.setCell (Bel.setCell hB2 (Nat.le_refl _) _) (Nat.le_refl _) _) (Nat.le_refl _) _))
          clear hK K hHr9_2
          try simp only [Act.put, List.getElem_toArray, List.getElem_cons_succ, List.getElem_cons_zero, List.setIfInBounds_toArray, List.set_cons_zero, List.set_cons_succ]
          refine wpAnyH_ready (rs := [5]) (by kernel_rfl) (by simp) ?_
          refine AllReadyH.cons (o := _) rfl (fun K hK => ?_) AllReadyH.nil
          go_simp
          refine hK.out _ _ ?_ (fun hHr9_4 => ?_)
          · (try dsimp only); (first | assumption | exact hS _ (Bel.refl w5).drew | exact hS _ hB2 | exact hS _ (Bel.alloc hB2 _) | exact hS _ (Bel.alloc (Bel.refl w5).drew _) | exact hS _ (Bel.setCell (Bel.setCell (Bel.setCell hB2 (Nat.le_refl _) _) (Nat.le_refl _) _) (Nat.le_refl _) _))
          clear hK K hHr9_3
          try simp only [Act.put, List.getElem_toArray, List.getElem_cons_succ, List.getElem_cons_zero, List.setIfInBounds_toArray, List.set_cons_zero, List.set_cons_succ]
          refine wpAnyH_done (by kernel_rfl) ?_ _
          refine NoPanic.normal ?_
          (refine ⟨bm, w5.heap.size, rfl, ?_, hHr9_4.1, by go_simp, by go_simp⟩; generalize w5.heap.size = bx; exact rfl)
      case k =>
        rintro bm bx V ⟨hb, hk1, hk2⟩
        obtain ⟨⟨a0, a1, a2, a3, c0, c1, c2, c3⟩, hBV⟩ := HCL.out _ (HB45.out.then_ hb)
        have HBV := Lib.hid hBV
        have HBB := Lib.hid (HB45.out.then_ hb)
        clear d0 d1 d2 d3 e0 e1 e2 e3 hB5 hS hb hBV HB45
        by_cases hk0 : k = 0
        · subst hk0
          cases null
          · have hR2 : R = 131 := by rw [HR.out]; unfold fitsI; rw [if_neg (by rw [← HRB.out]; simp), if_neg (by rw [← HCI.out]; simp)]; rfl
            go_wp2
            go_ret
            exact ⟨_, rfl, .inr ⟨by omega, _, rfl, _, by rw [hR2]; exact World.alloc_heap_new _ _⟩, HBV.out.alloc _⟩
          · have hR2 : R = 0 := by rw [HR.out]; unfold fitsI; rw [if_neg (by rw [← HRB.out]; simp), if_neg (by rw [← HCI.out]; simp)]; rfl
            go_wp2
            go_ret
            exact ⟨_, rfl, .inl ⟨hR2, rfl⟩, HBV.out⟩
        · have hk0b : (k == 0) = false := by rw [beq_eq_false_iff_ne]; exact hk0
          by_cases hkt : k = t
          · subst hkt
            have hktb : (k != k) = false := by simp
            have hR2 : R = if fb = false then 133 else 0 := by
              rw [HR.out]; unfold fitsI; rw [if_neg (by rw [← HRB.out]; simp), if_neg (by rw [← HCI.out]; simp), if_neg hk0, if_neg (by intro h; exact h rfl), HFB.out]
            cases fb
            · go_wp2_with (go_at_fn g; refine (HGF.out _).mono ?_; rintro e w8 ⟨rfl, hb8⟩; obtain ⟨⟨d0, d1, d2, d3, e0, e1, e2, e3⟩, hB8⟩ := HCL.out _ (HBB.out.then_ hb8))
              go_ret
              exact ⟨_, rfl, .inr ⟨by rw [hR2]; decide, _, rfl, _, by rw [hR2]; exact World.alloc_heap_new _ _⟩, hB8.alloc _⟩
            · go_wp2_with (go_at_fn g; refine (HGF.out _).mono ?_; rintro e w8 ⟨rfl, hb8⟩; obtain ⟨⟨d0, d1, d2, d3, e0, e1, e2, e3⟩, hB8⟩ := HCL.out _ (HBB.out.then_ hb8))
              go_ret
              exact ⟨_, rfl, .inl ⟨by rw [hR2]; rfl, rfl⟩, hB8⟩
          · have hktb : (k != t) = true := by rw [bne_iff_ne]; exact hkt
            have hR2 : R = 132 := by
              rw [HR.out]; unfold fitsI; rw [if_neg (by rw [← HRB.out]; simp), if_neg (by rw [← HCI.out]; simp), if_neg hk0, if_pos hkt]
            go_wp2
            go_ret
            exact ⟨_, rfl, .inr ⟨by omega, _, rfl, _, by rw [hR2]; exact World.alloc_heap_new _ _⟩, HBV.out.alloc _⟩
    · have hcb : (ci == 0) = false := by rw [beq_eq_false_iff_ne]; exact hc0
      have hR2 : R = ci := by rw [HR.out]; unfold fitsI; rw [if_neg (by rw [← HRB.out]; simp), if_pos (by rw [← HCI.out]; exact hc0), HCI.out]
      go_enter Tryz.func55, Tryz.ntmps55
      go_wp2_with (first | (go_at_call 96; refine (HRI.out _).mono ?_; rintro e w4 ⟨rfl, hb4⟩; obtain ⟨⟨a0, a1, a2, a3, c0, c1, c2, c3⟩, hB4⟩ := HCL.out _ hb4) | (go_at_call 97; refine (HCH.out _).mono ?_; rintro e w5 ⟨rfl, hb5⟩; obtain ⟨⟨d0, d1, d2, d3, e0, e1, e2, e3⟩, hB5⟩ := HCL.out _ (hb4.then_ hb5)))
      go_ret
      exact ⟨_, rfl, .inr ⟨by omega, _, rfl, _, by rw [hR2]; exact World.alloc_heap_new _ _⟩, hB5.alloc _⟩
theorem scFits_any (c : Col) (x : Val) (hx : x.Wf) (w : World) (hg : ErrType w) : Calls Tryz.prog 23 #[c.v, x.v] w fun e w' => e = .returned (.int .i64 (fitsI c x)) ∧ Bel w w' := by
  have HF := Lib.hid (fun V => scfits_any c x hx V)
  have HG := Lib.hid hg
  obtain ⟨R, hR⟩ : ∃ R, R = fitsI c x := ⟨_, rfl⟩
  rw [← hR] at HF ⊢
  clear hR hg
  obtain ⟨name, t, z, null⟩ := c
  obtain ⟨k, n, u, b⟩ := x
  unfold Val.v Col.v at *
  dsimp only at *
  go_enter Tryz.func23, Tryz.ntmps23
  go_wp2_with fail
  refine (HF.out _).mono ?_
  rintro e w1 ⟨v, rfl, hv, hb⟩
  have hbb : Bel w w1 := (((Bel.refl w).alloc _).alloc _).then_ hb
  have HN := Lib.hid (scnumber_any (HG.out.bel hbb) hv)
  have HB := Lib.hid hbb
  clear hv hb hbb HF
  go_wp2_with (go_at_call 52; refine HN.out.mono ?_; rintro e w2 ⟨rfl, hb2⟩)
  go_ret
  exact ⟨rfl, HB.out.then_ hb2⟩
end Go.Proofs.YtkklmflclmgjeaaGreatDoor

/-
  The document's answers for layers 1 and 3: names, columns, values, which fit.
-/
set_option linter.unusedVariables false
set_option linter.unusedSimpArgs false
set_option linter.unusedVariables false
set_option linter.unusedSimpArgs false
namespace Go.Proofs.YtkklmflclmgjeaaGreatDoor
open Go.RowKit Go.Shelf Go.Lib
attribute [local go_sem] Oper.semAt_some

theorem letterB_high {c : Nat} (h : 128 ≤ c) (f : Bool) : letterB f c = false := by
  unfold letterB
  rw [if_neg (by omega), decide_eq_false (by omega)]
theorem idxR_letters (s : ByteArray) : ∀ f pos, s.size ≤ pos + f → (¬ 0 ≤ idxR (fun c => !letterB false c) s f pos ↔ ∀ i (h : i < s.size), pos ≤ i → letterB false ((s[i]'h).toNat : Int) = true)
  | 0, pos, hf => by
    unfold idxR
    exact ⟨fun _ i h hp => by omega, fun _ => by omega⟩
  | f + 1, pos, hf => by
    unfold idxR
    by_cases hps : pos < s.size
    · rw [if_pos hps]
      by_cases ha : (s[pos]'hps).toNat < 128
      · rw [decode_ascii s pos hps ha]
        by_cases hl : letterB false ((s[pos]'hps).toNat : Int) = true
        · rw [if_neg (by simp [hl])]
          rw [idxR_letters s f (pos + 1) (by omega)]
          constructor
          · intro h i hi hp
            by_cases e : i = pos
            · subst e; exact hl
            · exact h i hi (by omega)
          · intro h i hi hp
            exact h i hi (by omega)
        · rw [if_pos (by simpa using hl)]
          constructor
          · intro h; omega
          · intro h; exact absurd (h pos hps (Nat.le_refl _)) hl
      · have hd := decode_high s pos hps (by omega)
        rw [if_pos (by rw [letterB_high hd.1]; rfl)]
        constructor
        · intro h; omega
        · intro h
          have := h pos hps (Nat.le_refl _)
          rw [letterB_high (by omega)] at this
          cases this
    · rw [if_neg hps]
      exact ⟨fun _ i h hp => by omega, fun _ => by omega⟩
theorem namedB_iff (s : ByteArray) : namedB s = true ↔ (1 ≤ s.size ∧ s.size ≤ 24) ∧ ∀ i (h : i < s.size), letterB (decide (i = 0)) ((s[i]'h).toNat : Int) = true := by
  unfold namedB runesFine
  split
  · rename_i h
    rw [Bool.and_eq_true, Bool.not_eq_true', decide_eq_false_iff_not, idxR_letters s s.size 0 (by omega)]
    constructor
    · rintro ⟨h1, h2⟩
      refine ⟨h, fun i hi => ?_⟩
      by_cases e : i = 0
      · subst e; simpa using h1
      · rw [decide_eq_false e]; exact h2 i hi (Nat.zero_le _)
    · rintro ⟨-, h2⟩
      refine ⟨by simpa using h2 0 (by omega), fun i hi _ => ?_⟩
      have := h2 i hi
      by_cases e : i = 0
      · subst e
        unfold letterB at this ⊢
        split <;> simp_all
      · rwa [decide_eq_false e] at this
  · rename_i h
    exact ⟨(fun e => by cases e), (fun e => absurd e.1 h)⟩
set_option maxHeartbeats 2000000 in
theorem tName_any (s : ByteArray) (hm : s.size ≤ 9223372036854775807) (w : World) : Calls Tryz.prog 99 #[.string s] w fun e w' => e = .returned (.bool (namedB s)) ∧ w = w' := by
  obtain ⟨R, hR⟩ : ∃ R, R = namedB s := ⟨_, rfl⟩
  rw [← hR]
  have HR : Hid (R = true ↔ (1 ≤ s.size ∧ s.size ≤ 24) ∧ ∀ i (h : i < s.size), letterB (decide (i = 0)) ((s[i]'h).toNat : Int) = true) := by rw [hR]; exact namedB_iff s
  clear hR
  have hmI : (s.size : Int) ≤ 9223372036854775807 := by omega
  go_enter Tryz.func99, Tryz.ntmps99
  go_wp2
  go_loopw [3] (fun i wr => ∃ k : Nat, k ≤ s.size ∧ i = .int .i64 k ∧ wr = w ∧ Hid (∀ j (h : j < s.size), j < k → letterB (decide (j = 0)) ((s[j]'h).toNat : Int) = true)) (fun i _ => s.size - (intOf i).toNat)
  case atStart => exact ⟨0, Nat.zero_le _, rfl, rfl, fun j h hj => by omega⟩
  case round =>
    obtain ⟨k, hk, rfl, hwr, HT⟩ := hrel
    have hwr' := hwr.symm
    clear hwr
    subst hwr'
    by_cases hlt : k < s.size
    · have hltI : (k : Int) < s.size := by omega
      have hkI : (0 : Int) ≤ k := by omega
      have HOK : Hid (letterB (decide (k = 0)) ((s[k]'hlt).toNat : Int) = true → ∀ j (h : j < s.size), j < k + 1 → letterB (decide (j = 0)) ((s[j]'h).toNat : Int) = true) := fun hl j h hj => by
        by_cases e : j = k
        · subst e; exact hl
        · exact HT.out j h (by omega)
      have HNO : Hid (letterB (decide (k = 0)) ((s[k]'hlt).toNat : Int) = false → R = false) := fun hl => by
        cases hR : R with
        | false => rfl
        | true => have := (HR.out.1 hR).2 k hlt; rw [hl] at this; cases this
      have hxx := UInt8.toNat_lt (s[k]'hlt)
      generalize hx : (s[k]'hlt).toNat = x at *
      by_cases hA : 97 ≤ x ∧ x ≤ 122
      · have hL : letterB (decide (k = 0)) (x : Int) = true := by unfold letterB; rw [if_neg (by omega), decide_eq_true (by omega)]
        have a1 : (97 : Int) ≤ x := by omega
        have a2 : (x : Int) ≤ 122 := by omega
        go_wp2
        go_roundw
        case rel => exact ⟨k + 1, by omega, by go_num, by first | rfl | trivial, HOK.out hL⟩
        case measure => simp [intOf]; omega
      · have hnl : (decide ((97 : Int) ≤ x) && decide ((x : Int) ≤ 122)) = false := by simp; omega
        by_cases hk0 : k = 0
        · subst hk0
          have hL : letterB (decide ((0 : Nat) = 0)) (x : Int) = false := by
            unfold letterB
            split
            · rfl
            · rw [decide_eq_false (by omega)]
          by_cases a1 : (97 : Int) ≤ x
          · have a2 : decide ((x : Int) ≤ 122) = false := by simp; omega
            go_wp2
            go_ret
            exact ⟨by first | rfl | (rw [HNO.out hL]; rfl), rfl⟩
          · have a2 : decide ((97 : Int) ≤ x) = false := by simp; omega
            go_wp2
            go_ret
            exact ⟨by first | rfl | (rw [HNO.out hL]; rfl), rfl⟩
        · have hk0b : ((k : Int) == 0) = false := by rw [beq_eq_false_iff_ne]; omega
          by_cases hU : x = 95
          · subst hU
            have hL : letterB (decide (k = 0)) ((95 : Nat) : Int) = true := by unfold letterB; rw [if_pos (.inl rfl), decide_eq_false hk0]; rfl
            go_wp2
            go_roundw
            case rel => exact ⟨k + 1, by omega, by go_num, by first | rfl | trivial, HOK.out hL⟩
            case measure => simp [intOf]; omega
          · have hUb : ((x : Int) != 95) = true := by rw [bne_iff_ne]; omega
            by_cases hD : 48 ≤ x ∧ x ≤ 57
            · have hL : letterB (decide (k = 0)) (x : Int) = true := by unfold letterB; rw [if_pos (.inr (by omega)), decide_eq_false hk0]; rfl
              have a1 : decide ((97 : Int) ≤ x) = false := by simp; omega
              have a3 : decide ((x : Int) < 48) = false := by simp; omega
              have a4 : decide ((57 : Int) < x) = false := by simp; omega
              go_wp2
              go_roundw
              case rel => exact ⟨k + 1, by omega, by go_num, by first | rfl | trivial, HOK.out hL⟩
              case measure => simp [intOf]; omega
            · have hL : letterB (decide (k = 0)) (x : Int) = false := by unfold letterB; rw [if_neg (by omega), decide_eq_false (by omega)]
              by_cases a1 : (97 : Int) ≤ x
              · have a2 : decide ((x : Int) ≤ 122) = false := by simp; omega
                have a3 : decide ((x : Int) < 48) = false := by simp; omega
                have a4 : (57 : Int) < x := by omega
                go_wp2
                go_ret
                exact ⟨by first | rfl | (rw [HNO.out hL]; rfl), rfl⟩
              · have a2 : decide ((97 : Int) ≤ x) = false := by simp; omega
                by_cases a3 : (x : Int) < 48
                · go_wp2
                  go_ret
                  exact ⟨by first | rfl | (rw [HNO.out hL]; rfl), rfl⟩
                · have a4 : (57 : Int) < x := by omega
                  have a5 : decide ((x : Int) < 48) = false := by simp; omega
                  go_wp2
                  go_ret
                  exact ⟨by first | rfl | (rw [HNO.out hL]; rfl), rfl⟩
    · obtain rfl : k = s.size := by omega
      have HT2 : Hid (∀ i (h : i < s.size), letterB (decide (i = 0)) ((s[i]'h).toNat : Int) = true) := fun i h => HT.out i h h
      clear HT hlt hk
      by_cases h1 : 1 ≤ s.size
      · have h1I : (1 : Int) ≤ s.size := by omega
        by_cases h2 : s.size ≤ 24
        · have h2I : (s.size : Int) ≤ 24 := by omega
          have hRt : R = true := HR.out.2 ⟨⟨h1, h2⟩, HT2.out⟩
          go_wp2
          go_ret
          exact ⟨by rw [hRt]; rfl, rfl⟩
        · have h2I : decide ((s.size : Int) ≤ 24) = false := by simp; omega
          have hRf : R = false := by
            cases hR : R with
            | false => rfl
            | true => exact absurd (HR.out.1 hR).1.2 h2
          go_wp2
          go_ret
          exact ⟨by rw [hRf]; rfl, rfl⟩
      · have h2I : decide ((1 : Int) ≤ s.size) = false := by simp; omega
        have h3I : decide (1 ≤ s.size) = false := by rw [decide_eq_false_iff_not]; exact h1
        have hRf : R = false := by
          cases hR : R with
          | false => rfl
          | true => exact absurd (HR.out.1 hR).1.1 h1
        go_wp2
        go_ret
        exact ⟨by rw [hRf]; rfl, rfl⟩
theorem toList_nil_iff (b : ByteArray) : b.toList = [] ↔ b = ⟨#[]⟩ := by
  rw [← bytes_eq_iff, show (⟨#[]⟩ : ByteArray).toList = [] by rw [ByteArray.toList_eq]]
theorem checkI_eq (k n u : Int) (b : ByteArray) : checkI ⟨k, n, u, b⟩ = if k < 0 ∨ 4 < k ∨ (k ≠ 1 ∧ k ≠ 3 ∧ n ≠ 0) ∨ (k ≠ 2 ∧ u ≠ 0) ∨ (k ≠ 4 ∧ b ≠ ⟨#[]⟩) ∨ (k = 3 ∧ n ≠ 0 ∧ n ≠ 1) then 2 else if 200 < b.size then 3 else 0 := by
  unfold checkI mayB Val.bare
  dsimp only
  have e : (k < 0 ∨ 4 < k ∨ (⟨k, n, u, b⟩ : Val) ≠ ⟨k, if k = 1 ∨ k = 3 then n else 0, if k = 2 then u else 0, if k = 4 then b else ⟨#[]⟩⟩ ∨ decide (k = 3 → n = 0 ∨ n = 1) = false) ↔ (k < 0 ∨ 4 < k ∨ (k ≠ 1 ∧ k ≠ 3 ∧ n ≠ 0) ∨ (k ≠ 2 ∧ u ≠ 0) ∨ (k ≠ 4 ∧ b ≠ ⟨#[]⟩) ∨ (k = 3 ∧ n ≠ 0 ∧ n ≠ 1)) := by
    by_cases h0 : k < 0
    · simp [h0]
    · by_cases h4 : 4 < k
      · simp [h4]
      · have hc : k = 0 ∨ k = 1 ∨ k = 2 ∨ k = 3 ∨ k = 4 := by omega
        by_cases hn : n = 0 <;> by_cases hu : u = 0 <;> by_cases hb : b = ⟨#[]⟩ <;> by_cases hn1 : n = 1 <;> rcases hc with rfl | rfl | rfl | rfl | rfl <;> simp [hn, hu, hb, hn1] <;> omega
  simp only [e]
set_option maxHeartbeats 4000000 in
theorem vrCheck_any (x : Val) (w : World) : Calls Tryz.prog 57 #[x.v] w fun e w' => e = .returned (.int .i64 (checkI x)) ∧ Bel w w' := by
  obtain ⟨k, n, u, b⟩ := x
  unfold Val.v
  dsimp only
  obtain ⟨R, hR⟩ : ∃ R, R = checkI ⟨k, n, u, b⟩ := ⟨_, rfl⟩
  rw [← hR]
  rw [checkI_eq] at hR
  have HR := Lib.hid hR
  clear hR
  by_cases hk0 : k < 0
  · rw [if_pos (.inl hk0)] at HR
    go_enter Tryz.func57, Tryz.ntmps57
    go_wp2
    go_ret
    exact ⟨by rw [HR.out]; rfl, by (repeat (first | exact Below.refl _ _ | assumption | exact Bel.refl _ | refine Bel.alloc ?_ _ | refine Bel.drew ?_ | refine Bel.drewN ?_ _ | refine Bel.then_ ?_ (by assumption) | refine Bel.setCell ?_ (by first | (simp; done) | (simp; omega)) _))⟩
  · by_cases hk4 : 4 < k
    · rw [if_pos (.inr (.inl hk4))] at HR
      have hk0b : decide (k < 0) = false := by simp; omega
      go_enter Tryz.func57, Tryz.ntmps57
      go_wp2
      go_ret
      exact ⟨by rw [HR.out]; rfl, by (repeat (first | exact Below.refl _ _ | assumption | exact Bel.refl _ | refine Bel.alloc ?_ _ | refine Bel.drew ?_ | refine Bel.drewN ?_ _ | refine Bel.then_ ?_ (by assumption) | refine Bel.setCell ?_ (by first | (simp; done) | (simp; omega)) _))⟩
    · have hc : k = 0 ∨ k = 1 ∨ k = 2 ∨ k = 3 ∨ k = 4 := by omega
      clear hk0 hk4
      rcases hc with rfl | rfl | rfl | rfl | rfl
      all_goals
        go_enter Tryz.func57, Tryz.ntmps57
        go_wp2
        all_goals
          have e := HR.out
          clear HR
          go_ret
          refine ⟨?_, by (repeat (first | exact Below.refl _ _ | assumption | exact Bel.refl _ | refine Bel.alloc ?_ _ | refine Bel.drew ?_ | refine Bel.drewN ?_ _ | refine Bel.then_ ?_ (by assumption) | refine Bel.setCell ?_ (by first | (simp; done) | (simp; omega)) _))⟩
          show Ending.returned (Value.int .i64 _) = _
          try simp only [toList_nil_iff] at *
          rw [e]
          simp_all
          try omega
end Go.Proofs.YtkklmflclmgjeaaGreatDoor

/-
  Schema: sets of places.
-/
set_option linter.unusedVariables false
set_option linter.unusedSimpArgs false
set_option linter.unusedVariables false
set_option linter.unusedSimpArgs false
namespace Go.Proofs.YtkklmflclmgjeaaGreatDoor
open Go.RowKit Go.Shelf Go.Lib
attribute [local go_sem] Oper.semAt_some

/-- A list of numbers lies behind a slice. -/
def IntsAt (w : World) (v : Value) (l : List Int) : Prop := ∃ A c, v = .slice A l.length c ∧ l.length ≤ c ∧ c ≤ maxLen ∧ (0 < l.length → ∃ b off, A = some ⟨b, off, none⟩ ∧ ∀ i n, l[i]? = some n → w.cell? ⟨b, off + i, none⟩ = some (.int .i64 n))
theorem IntsAt.bel {w w' : World} {v : Value} {l : List Int} (h : IntsAt w v l) (hb : Bel w w') : IntsAt w' v l := by
  obtain ⟨A, c, e, hc, hm, h⟩ := h
  exact ⟨A, c, e, hc, hm, fun hl => by obtain ⟨b, off, ea, hi⟩ := h hl; exact ⟨b, off, ea, fun i n hn => hb.c (hi i n hn)⟩⟩
theorem IntsAt.take {w : World} {A : Option Addr} {c : Nat} {l : List Int} (h : IntsAt w (.slice A l.length c) l) (k : Nat) (hk : k ≤ l.length) : IntsAt w (.slice A k c) (l.take k) := by
  obtain ⟨A', c', e, hc, hm, h⟩ := h
  cases e
  have e : (l.take k).length = k := by rw [List.length_take]; omega
  refine ⟨A, c, by rw [e], by omega, hm, fun hl => ?_⟩
  obtain ⟨b, off, ea, hi⟩ := h (by omega)
  exact ⟨b, off, ea, fun i n hn => hi i n (by
    have hlt := (List.getElem?_eq_some_iff.1 hn).1
    rw [List.getElem?_take, if_pos (by omega)] at hn
    exact hn)⟩
theorem slIndexInt_any (v : Value) (l : List Int) (x : Int) (w : World) (h : IntsAt w v l) : Calls Tryz.prog 176 #[v, .int .i64 x] w fun e w' => (∃ i : Int, e = .returned (.int .i64 i) ∧ (0 ≤ i ↔ x ∈ l)) ∧ w = w' := by
  obtain ⟨A, c, rfl, hc, hm, hr⟩ := h
  have HRR := Lib.hid hr
  have hlI : (l.length : Int) ≤ 9223372036854775807 := by unfold maxLen at hm; omega
  clear hr hm
  go_enter Tryz.func176, Tryz.ntmps176
  go_wp2
  go_loopw [8] (fun i wr => ∃ k : Nat, k ≤ l.length ∧ i = .int .i64 k ∧ wr = w ∧ Hid (x ∉ l.take k)) (fun i _ => l.length - (intOf i).toNat)
  case atStart => exact ⟨0, Nat.zero_le _, rfl, rfl, by show _ ∉ _; simp⟩
  case round =>
    obtain ⟨k, hk, rfl, hwr, HT⟩ := hrel
    have hwr' := hwr.symm
    clear hwr
    subst hwr'
    by_cases hlt : k < l.length
    · obtain ⟨y, hy⟩ : ∃ y, l[k]? = some y := ⟨_, List.getElem?_eq_getElem hlt⟩
      obtain ⟨b, off, rfl, hi⟩ := HRR.out (by omega)
      have hc1 := hi k y hy
      have hkI : (k : Int) < l.length := by omega
      have HMEM : Hid (y ∈ l) := List.mem_of_getElem? hy
      have HNX : Hid (¬ x = y → x ∉ l.take (k + 1)) := fun e => by
        rw [List.take_add_one, hy]
        intro hm
        rcases List.mem_append.1 hm with hm | hm
        · exact HT.out hm
        · simp at hm; exact e hm
      clear hi hy
      by_cases hxy : x = y
      · subst hxy
        go_wp2
        go_ret
        exact ⟨⟨(k : Int), rfl, by constructor <;> intro _ <;> first | exact HMEM.out | omega⟩, rfl⟩
      · have hb : (x == y) = false := by rw [beq_eq_false_iff_ne]; exact hxy
        go_wp2
        go_roundw
        case rel => exact ⟨k + 1, by omega, by go_num, by first | rfl | trivial, HNX.out hxy⟩
        case measure => simp [intOf]; omega
    · obtain rfl : k = l.length := by omega
      have HN : Hid (x ∉ l) := by show _ ∉ _; have := HT.out; rwa [List.take_length] at this
      clear HT hlt hk
      go_wp2
      go_ret
      exact ⟨⟨-1, rfl, by constructor <;> intro h <;> first | exact absurd h HN.out | (exfalso; omega)⟩, rfl⟩
theorem slContainsInt_any (v : Value) (l : List Int) (x : Int) (w : World) (h : IntsAt w v l) : Calls Tryz.prog 149 #[v, .int .i64 x] w fun e w' => e = .returned (.bool (decide (x ∈ l))) ∧ w = w' := by
  have HI := Lib.hid (slIndexInt_any v l x w h)
  obtain ⟨A, c, rfl, -⟩ := h
  obtain ⟨R, hR⟩ : ∃ R, R = decide (x ∈ l) := ⟨_, rfl⟩
  rw [← hR]
  have HR := Lib.hid hR
  clear hR
  go_enter Tryz.func149, Tryz.ntmps149
  go_wp2_with fail
  refine HI.out.mono ?_
  rintro e w' ⟨⟨i, rfl, hi⟩, rfl⟩
  have hd : decide (x ∈ l) = decide (0 ≤ i) := by by_cases h : x ∈ l <;> simp [h, hi]
  have HRD : Hid (R = decide (0 ≤ i)) := by show _ = _; rw [HR.out, hd]
  clear hi hd HI
  go_wp2
  go_ret
  exact ⟨by rw [HRD.out]; rfl, rfl⟩
/-- May places be a set's, of so many columns? -/
def inB (l : List Int) (many : Int) (i : Nat) : Bool := decide (0 ≤ l.getD i 0 ∧ l.getD i 0 < many ∧ l.getD i 0 ∉ l.take i)
def setB (l : List Int) (many : Int) : Bool := decide (1 ≤ l.length ∧ l.length ≤ 4) && (List.range l.length).all (inB l many)
theorem setB_false {l : List Int} {many : Int} {i : Nat} (hi : i < l.length) (h : inB l many i = false) : setB l many = false := by
  unfold setB
  rw [Bool.and_eq_false_iff]
  right
  rw [List.all_eq_false]
  exact ⟨i, List.mem_range.2 hi, by simp [h]⟩
theorem setB_true {l : List Int} {many : Int} (hl : 1 ≤ l.length ∧ l.length ≤ 4) (h : ∀ i, i < l.length → inB l many i = true) : setB l many = true := by
  unfold setB
  rw [decide_eq_true hl, Bool.true_and, List.all_eq_true]
  intro i hi
  exact h i (List.mem_range.1 hi)
set_option maxHeartbeats 2000000 in
theorem lookset_any (Ac : Option Addr) (many cc : Nat) (hmany : many ≤ maxLen) (vk vu v : Value) (l : List Int) (w : World) (h : IntsAt w v l) : Calls Tryz.prog 100 #[.agg #[.slice Ac many cc, vk, vu], v] w fun e w' => e = .returned (.bool (setB l many)) ∧ Bel w w' := by
  obtain ⟨R, hR⟩ : ∃ R, R = setB l many := ⟨_, rfl⟩
  rw [← hR]
  have HR := Lib.hid hR
  clear hR
  obtain ⟨W, hW⟩ : ∃ W, W = w.alloc (.cells #[.slice Ac many cc, vk, vu] 100) := ⟨_, rfl⟩
  have hbW : Bel w W := by rw [hW]; exact (Bel.refl w).alloc _
  have h2 := h.bel hbW
  have hc0 : W.cell? ⟨w.heap.size, 0, none⟩ = some (.slice Ac many cc) := by rw [hW]; go_simp
  obtain ⟨A, c, rfl, hcl, hm, hr⟩ := id h2
  have HV := Lib.hid h2
  have HB := Lib.hid hbW
  have hlI : (l.length : Int) ≤ 9223372036854775807 := by unfold maxLen at hm; omega
  have hclI : (l.length : Int) ≤ c := by omega
  have hmI : (many : Int) ≤ 9223372036854775807 := by unfold maxLen at hmany; omega
  have HRR := Lib.hid hr
  clear hr hm h h2 hbW hmany
  by_cases h1 : 1 ≤ l.length
  · by_cases h4 : l.length ≤ 4
    · have h1b : decide ((l.length : Int) < 1) = false := by simp; omega
      have h4b : decide ((4 : Int) < l.length) = false := by simp; omega
      go_enter Tryz.func100, Tryz.ntmps100
      go_wp2
      rw [← hW]
      clear hW
      go_loopw [17] (fun i wr => ∃ k : Nat, k ≤ l.length ∧ i = .int .i64 k ∧ Hid (∀ j, j < k → inB l many j = true) ∧ wr = W) (fun i _ => l.length - (intOf i).toNat)
      case atStart => exact ⟨0, Nat.zero_le _, rfl, fun j hj => by omega, rfl⟩
      case round =>
        obtain ⟨k, hk, rfl, HT, hwr⟩ := hrel
        have hwr' := hwr.symm
        clear hwr
        subst hwr'
        by_cases hlt : k < l.length
        · obtain ⟨x, hx⟩ : ∃ x, l[k]? = some x := ⟨_, List.getElem?_eq_getElem hlt⟩
          obtain ⟨b, off, rfl, hi⟩ := HRR.out (by omega)
          have hc1 := hi k x hx
          have hkI : (k : Int) < l.length := by omega
          have hkc : (k : Int) ≤ c := by omega
          have hgx : l.getD k 0 = x := by simp [List.getD, hx]
          have HIN : Hid (inB l many k = decide (0 ≤ x ∧ x < many ∧ x ∉ l.take k)) := by show _ = _; unfold inB; rw [hgx]
          have HC := Lib.hid (slContainsInt_any _ (l.take k) x W (HV.out.take k hk))
          have HNX : Hid (inB l many k = true → ∀ j, j < k + 1 → inB l many j = true) := fun e j hj => by
            by_cases ej : j = k
            · subst ej; exact e
            · exact HT.out j (by omega)
          have HNO : Hid (inB l many k = false → R = false) := fun e => by rw [HR.out]; exact setB_false hlt e
          have hk1 : k + 1 ≤ l.length := hlt
          clear hi hx hgx
          by_cases hx0 : x < 0
          · have hf := HNO.out (by rw [HIN.out]; exact decide_eq_false (by omega))
            go_wp2_with (go_at_call 149; refine HC.out.mono ?_; rintro e w' ⟨rfl, rfl⟩)
            go_ret
            exact ⟨by first | rfl | (rw [hf]; rfl), HB.out⟩
          · have hx0b : decide (x < 0) = false := by simp; omega
            by_cases hxm : (many : Int) ≤ x
            · have hf := HNO.out (by rw [HIN.out]; exact decide_eq_false (by omega))
              go_wp2_with (go_at_call 149; refine HC.out.mono ?_; rintro e w' ⟨rfl, rfl⟩)
              go_ret
              exact ⟨by first | rfl | (rw [hf]; rfl), HB.out⟩
            · have hxmb : decide ((many : Int) ≤ x) = false := by simp; omega
              by_cases hxi : x ∈ l.take k
              · have hf := HNO.out (by rw [HIN.out]; exact decide_eq_false (fun e => e.2.2 hxi))
                rw [decide_eq_true hxi] at HC
                clear hxi
                go_wp2_with (go_at_call 149; refine HC.out.mono ?_; rintro e w' ⟨rfl, rfl⟩)
                go_ret
                exact ⟨by first | rfl | (rw [hf]; rfl), HB.out⟩
              · have ht := HNX.out (by rw [HIN.out]; exact decide_eq_true ⟨by omega, by omega, hxi⟩)
                have HTT := Lib.hid ht
                rw [decide_eq_false hxi] at HC
                clear hxi ht
                go_wp2_with (go_at_call 149; refine HC.out.mono ?_; rintro e w' ⟨rfl, rfl⟩)
                go_roundw
                case rel => exact ⟨k + 1, by omega, by go_num, HTT.out, by first | rfl | trivial⟩
                case measure => simp [intOf]; omega
        · obtain rfl : k = l.length := by omega
          have ht : R = true := by rw [HR.out]; exact setB_true ⟨h1, h4⟩ HT.out
          clear HT
          go_wp2
          go_ret
          exact ⟨by first | rfl | (rw [ht]; rfl), HB.out⟩
    · have hf : R = false := by rw [HR.out]; unfold setB; rw [decide_eq_false (by omega)]; rfl
      have h1b : decide ((l.length : Int) < 1) = false := by simp; omega
      have h4b : (4 : Int) < l.length := by omega
      subst hW
      go_enter Tryz.func100, Tryz.ntmps100
      go_wp2
      go_ret
      exact ⟨by first | rfl | (rw [hf]; rfl), HB.out⟩
  · have hf : R = false := by rw [HR.out]; unfold setB; rw [decide_eq_false (by omega)]; rfl
    have h1b : (l.length : Int) < 1 := by omega
    subst hW
    go_enter Tryz.func100, Tryz.ntmps100
    go_wp2
    all_goals
      go_ret
      exact ⟨by first | rfl | (rw [hf]; rfl), HB.out⟩
end Go.Proofs.YtkklmflclmgjeaaGreatDoor

/-
  Schema: lists of columns, of sets; whether a function finds one.
-/
set_option linter.unusedVariables false
set_option linter.unusedSimpArgs false
set_option linter.unusedVariables false
set_option linter.unusedSimpArgs false
namespace Go.Proofs.YtkklmflclmgjeaaGreatDoor
open Go.RowKit Go.Shelf Go.Lib
attribute [local go_sem] Oper.semAt_some

/-- A list of columns lies behind a slice; a list of lists of numbers. -/
def ColsAt (w : World) (v : Value) (l : List Col) : Prop := ∃ A c, v = .slice A l.length c ∧ l.length ≤ c ∧ c ≤ maxLen ∧ (0 < l.length → ∃ b off, A = some ⟨b, off, none⟩ ∧ ∀ i (x : Col), l[i]? = some x →
  w.cell? ⟨b, off + i * 4, none⟩ = some (.string x.name) ∧ w.cell? ⟨b, off + i * 4 + 1, none⟩ = some (.int .i64 x.t) ∧ w.cell? ⟨b, off + i * 4 + 2, none⟩ = some (.int .i64 x.z) ∧ w.cell? ⟨b, off + i * 4 + 3, none⟩ = some (.bool x.null))
theorem ColsAt.bel {w w' : World} {v : Value} {l : List Col} (h : ColsAt w v l) (hb : Bel w w') : ColsAt w' v l := by
  obtain ⟨A, c, e, hc, hm, h⟩ := h
  exact ⟨A, c, e, hc, hm, fun hl => by obtain ⟨b, off, ea, hi⟩ := h hl; exact ⟨b, off, ea, fun i x hx => ⟨hb.c (hi i x hx).1, hb.c (hi i x hx).2.1, hb.c (hi i x hx).2.2.1, hb.c (hi i x hx).2.2.2⟩⟩⟩
theorem ColsAt.take {w : World} {A : Option Addr} {c : Nat} {l : List Col} (h : ColsAt w (.slice A l.length c) l) (k : Nat) (hk : k ≤ l.length) : ColsAt w (.slice A k c) (l.take k) := by
  obtain ⟨A', c', e, hc, hm, h⟩ := h
  cases e
  have e : (l.take k).length = k := by rw [List.length_take]; omega
  refine ⟨A, c, by rw [e], by omega, hm, fun hl => ?_⟩
  obtain ⟨b, off, ea, hi⟩ := h (by omega)
  exact ⟨b, off, ea, fun i n hn => hi i n (by
    have hlt := (List.getElem?_eq_some_iff.1 hn).1
    rw [List.getElem?_take, if_pos (by omega)] at hn
    exact hn)⟩
def ListsAt (w : World) (v : Value) (L : List (List Int)) : Prop := ∃ A c, v = .slice A L.length c ∧ L.length ≤ c ∧ c ≤ maxLen ∧ (0 < L.length → ∃ b off, A = some ⟨b, off, none⟩ ∧ ∀ i l, L[i]? = some l → ∃ u, w.cell? ⟨b, off + i, none⟩ = some u ∧ IntsAt w u l)
theorem ListsAt.bel {w w' : World} {v : Value} {L : List (List Int)} (h : ListsAt w v L) (hb : Bel w w') : ListsAt w' v L := by
  obtain ⟨A, c, e, hc, hm, h⟩ := h
  exact ⟨A, c, e, hc, hm, fun hl => by obtain ⟨b, off, ea, hi⟩ := h hl; exact ⟨b, off, ea, fun i x hx => by obtain ⟨u, h1, h2⟩ := hi i x hx; exact ⟨u, hb.c h1, h2.bel hb⟩⟩⟩
set_option maxHeartbeats 2000000 in
theorem slIndexFuncInt_any (g : Nat) (lb : Array Value) (eg : ∀ args w, (callFunc g args).run Tryz.prog w = .ok (.enter g args) w) (p : Int → Bool) (v : Value) (l : List Int) (w : World) (h : IntsAt w v l)
    (hp : ∀ W, Bel w W → ∀ x ∈ l, Calls Tryz.prog g (#[.int .i64 x] ++ lb) W fun e w' => e = .returned (.bool (p x)) ∧ Bel W w') :
    Calls Tryz.prog 150 #[v, .func (.func g) #[] lb] w fun e w' => (∃ i : Int, e = .returned (.int .i64 i) ∧ (0 ≤ i ↔ l.any p = true)) ∧ Bel w w' := by
  have HV := Lib.hid h
  obtain ⟨A, c, rfl, hcl, hm, hr⟩ := h
  have HP := Lib.hid hp
  have hlI : (l.length : Int) ≤ 9223372036854775807 := by unfold maxLen at hm; omega
  have HR := Lib.hid hr
  clear hr hm hp
  go_enter Tryz.func150, Tryz.ntmps150
  go_wp2
  go_loopw [8] (fun i wr => ∃ k : Nat, k ≤ l.length ∧ i = .int .i64 k ∧ Hid (Bel w wr) ∧ Hid ((l.take k).any p = false)) (fun i _ => l.length - (intOf i).toNat)
  case atStart => exact ⟨0, Nat.zero_le _, rfl, Bel.refl w, by show _ = _; simp⟩
  case round =>
    obtain ⟨k, hk, rfl, HB, HT⟩ := hrel
    by_cases hlt : k < l.length
    · obtain ⟨y, hy⟩ : ∃ y, l[k]? = some y := ⟨_, List.getElem?_eq_getElem hlt⟩
      obtain ⟨b, off, rfl, hi⟩ := HR.out (by omega)
      have hc1 := HB.out.c (hi k y hy)
      have hkI : (k : Int) < l.length := by omega
      have hmem : y ∈ l := List.mem_of_getElem? hy
      have HC := Lib.hid (HP.out wr HB.out y hmem)
      have HNX : Hid (p y = false → (l.take (k + 1)).any p = false) := fun e => by
        rw [List.take_add_one, hy, List.any_append, HT.out]
        simp [e]
      have HYES : Hid (p y = true → l.any p = true) := fun e => List.any_eq_true.2 ⟨y, hmem, e⟩
      clear hi hy hmem
      cases hpy : p y with
      | true =>
        rw [hpy] at HC HYES
        clear hpy
        go_wp2_with (go_at_fn g; refine HC.out.mono ?_; rintro e w4 ⟨rfl, hb4⟩)
        go_ret
        exact ⟨⟨(k : Int), rfl, by constructor <;> intro _ <;> first | exact HYES.out rfl | exact HYES.out trivial | omega⟩, HB.out.then_ hb4⟩
      | false =>
        rw [hpy] at HC HNX
        clear hpy
        go_wp2_with (go_at_fn g; refine HC.out.mono ?_; rintro e w4 ⟨rfl, hb4⟩)
        go_roundw
        case rel => exact ⟨k + 1, by omega, by go_num, HB.out.then_ hb4, by first | exact HNX.out rfl | exact HNX.out trivial⟩
        case measure => simp [intOf]; omega
    · obtain rfl : k = l.length := by omega
      have HN : Hid (l.any p = false) := by show _ = _; have := HT.out; rwa [List.take_length] at this
      clear HT hlt hk
      go_wp2
      go_ret
      exact ⟨⟨-1, rfl, by constructor <;> intro h <;> first | (rw [HN.out] at h; cases h) | (exfalso; omega)⟩, HB.out⟩
theorem slContainsFuncInt_any (g : Nat) (lb : Array Value) (eg : ∀ args w, (callFunc g args).run Tryz.prog w = .ok (.enter g args) w) (p : Int → Bool) (v : Value) (l : List (Int)) (w : World) (h : IntsAt w v l)
    (hp : ∀ W, Bel w W → ∀ x ∈ l, Calls Tryz.prog g (#[.int .i64 x] ++ lb) W fun e w' => e = .returned (.bool (p x)) ∧ Bel W w') :
    Calls Tryz.prog 104 #[v, .func (.func g) #[] lb] w fun e w' => e = .returned (.bool (l.any p)) ∧ Bel w w' := by
  have HI := Lib.hid (slIndexFuncInt_any g lb eg p v l w h hp)
  obtain ⟨A, c, rfl, -⟩ := h
  obtain ⟨R, hR⟩ : ∃ R, R = l.any p := ⟨_, rfl⟩
  rw [← hR]
  have HR := Lib.hid hR
  clear hR hp
  go_enter Tryz.func104, Tryz.ntmps104
  go_wp2_with fail
  refine HI.out.mono ?_
  rintro e w' ⟨⟨i, rfl, hi⟩, hb⟩
  have hd : l.any p = decide (0 ≤ i) := by cases h : l.any p <;> simp [h] at hi ⊢ <;> omega
  have HRD : Hid (R = decide (0 ≤ i)) := by show _ = _; rw [HR.out, hd]
  have HB := Lib.hid hb
  clear hi hd HI hb
  go_wp2
  go_ret
  exact ⟨by rw [HRD.out]; rfl, HB.out⟩
set_option maxHeartbeats 2000000 in
theorem slIndexFuncInts_any (g : Nat) (lb : Array Value) (eg : ∀ args w, (callFunc g args).run Tryz.prog w = .ok (.enter g args) w) (p : List Int → Bool) (v : Value) (l : List (List Int)) (w : World) (h : ListsAt w v l)
    (hp : ∀ W, Bel w W → ∀ x ∈ l, ∀ u, IntsAt W u x → Calls Tryz.prog g (#[u] ++ lb) W fun e w' => e = .returned (.bool (p x)) ∧ Bel W w') :
    Calls Tryz.prog 151 #[v, .func (.func g) #[] lb] w fun e w' => (∃ i : Int, e = .returned (.int .i64 i) ∧ (0 ≤ i ↔ l.any p = true)) ∧ Bel w w' := by
  have HV := Lib.hid h
  obtain ⟨A, c, rfl, hcl, hm, hr⟩ := h
  have HP := Lib.hid hp
  have hlI : (l.length : Int) ≤ 9223372036854775807 := by unfold maxLen at hm; omega
  have HR := Lib.hid hr
  clear hr hm hp
  go_enter Tryz.func151, Tryz.ntmps151
  go_wp2
  go_loopw [8] (fun i wr => ∃ k : Nat, k ≤ l.length ∧ i = .int .i64 k ∧ Hid (Bel w wr) ∧ Hid ((l.take k).any p = false)) (fun i _ => l.length - (intOf i).toNat)
  case atStart => exact ⟨0, Nat.zero_le _, rfl, Bel.refl w, by show _ = _; simp⟩
  case round =>
    obtain ⟨k, hk, rfl, HB, HT⟩ := hrel
    by_cases hlt : k < l.length
    · obtain ⟨y, hy⟩ : ∃ y, l[k]? = some y := ⟨_, List.getElem?_eq_getElem hlt⟩
      obtain ⟨b, off, rfl, hi⟩ := HR.out (by omega)
      obtain ⟨u, hc0, hu⟩ := hi k y hy
      have hc1 := HB.out.c hc0
      have hkI : (k : Int) < l.length := by omega
      have hmem : y ∈ l := List.mem_of_getElem? hy
      have HC := Lib.hid (HP.out wr HB.out y hmem u (hu.bel HB.out))
      have HNX : Hid (p y = false → (l.take (k + 1)).any p = false) := fun e => by
        rw [List.take_add_one, hy, List.any_append, HT.out]
        simp [e]
      have HYES : Hid (p y = true → l.any p = true) := fun e => List.any_eq_true.2 ⟨y, hmem, e⟩
      clear hi hy hmem hu hc0
      cases hpy : p y with
      | true =>
        rw [hpy] at HC HYES
        clear hpy
        go_wp2_with (go_at_fn g; refine HC.out.mono ?_; rintro e w4 ⟨rfl, hb4⟩)
        go_ret
        exact ⟨⟨(k : Int), rfl, by constructor <;> intro _ <;> first | exact HYES.out rfl | exact HYES.out trivial | omega⟩, HB.out.then_ hb4⟩
      | false =>
        rw [hpy] at HC HNX
        clear hpy
        go_wp2_with (go_at_fn g; refine HC.out.mono ?_; rintro e w4 ⟨rfl, hb4⟩)
        go_roundw
        case rel => exact ⟨k + 1, by omega, by go_num, HB.out.then_ hb4, by first | exact HNX.out rfl | exact HNX.out trivial⟩
        case measure => simp [intOf]; omega
    · obtain rfl : k = l.length := by omega
      have HN : Hid (l.any p = false) := by show _ = _; have := HT.out; rwa [List.take_length] at this
      clear HT hlt hk
      go_wp2
      go_ret
      exact ⟨⟨-1, rfl, by constructor <;> intro h <;> first | (rw [HN.out] at h; cases h) | (exfalso; omega)⟩, HB.out⟩
theorem slContainsFuncInts_any (g : Nat) (lb : Array Value) (eg : ∀ args w, (callFunc g args).run Tryz.prog w = .ok (.enter g args) w) (p : List Int → Bool) (v : Value) (l : List (List Int)) (w : World) (h : ListsAt w v l)
    (hp : ∀ W, Bel w W → ∀ x ∈ l, ∀ u, IntsAt W u x → Calls Tryz.prog g (#[u] ++ lb) W fun e w' => e = .returned (.bool (p x)) ∧ Bel W w') :
    Calls Tryz.prog 105 #[v, .func (.func g) #[] lb] w fun e w' => e = .returned (.bool (l.any p)) ∧ Bel w w' := by
  have HI := Lib.hid (slIndexFuncInts_any g lb eg p v l w h hp)
  obtain ⟨A, c, rfl, -⟩ := h
  obtain ⟨R, hR⟩ : ∃ R, R = l.any p := ⟨_, rfl⟩
  rw [← hR]
  have HR := Lib.hid hR
  clear hR hp
  go_enter Tryz.func105, Tryz.ntmps105
  go_wp2_with fail
  refine HI.out.mono ?_
  rintro e w' ⟨⟨i, rfl, hi⟩, hb⟩
  have hd : l.any p = decide (0 ≤ i) := by cases h : l.any p <;> simp [h] at hi ⊢ <;> omega
  have HRD : Hid (R = decide (0 ≤ i)) := by show _ = _; rw [HR.out, hd]
  have HB := Lib.hid hb
  clear hi hd HI hb
  go_wp2
  go_ret
  exact ⟨by rw [HRD.out]; rfl, HB.out⟩
set_option maxHeartbeats 2000000 in
theorem slIndexFuncCol_any (g : Nat) (lb : Array Value) (eg : ∀ args w, (callFunc g args).run Tryz.prog w = .ok (.enter g args) w) (p : Col → Bool) (v : Value) (l : List Col) (w : World) (h : ColsAt w v l)
    (hp : ∀ W, Bel w W → ∀ x ∈ l, Calls Tryz.prog g (#[x.v] ++ lb) W fun e w' => e = .returned (.bool (p x)) ∧ Bel W w') :
    Calls Tryz.prog 64 #[v, .func (.func g) #[] lb] w fun e w' => (∃ i : Int, e = .returned (.int .i64 i) ∧ (0 ≤ i ↔ l.any p = true)) ∧ Bel w w' := by
  have HV := Lib.hid h
  obtain ⟨A, c, rfl, hcl, hm, hr⟩ := h
  have HP := Lib.hid hp
  have hlI : (l.length : Int) ≤ 9223372036854775807 := by unfold maxLen at hm; omega
  have HR := Lib.hid hr
  clear hr hm hp
  go_enter Tryz.func64, Tryz.ntmps64
  go_wp2
  go_loopw [8] (fun i wr => ∃ k : Nat, k ≤ l.length ∧ i = .int .i64 k ∧ Hid (Bel w wr) ∧ Hid ((l.take k).any p = false)) (fun i _ => l.length - (intOf i).toNat)
  case atStart => exact ⟨0, Nat.zero_le _, rfl, Bel.refl w, by show _ = _; simp⟩
  case round =>
    obtain ⟨k, hk, rfl, HB, HT⟩ := hrel
    by_cases hlt : k < l.length
    · obtain ⟨y, hy⟩ : ∃ y, l[k]? = some y := ⟨_, List.getElem?_eq_getElem hlt⟩
      obtain ⟨b, off, rfl, hi⟩ := HR.out (by omega)
      obtain ⟨q0, q1, q2, q3⟩ := hi k y hy
      have hc0 := HB.out.c q0
      have hc1 := HB.out.c q1
      have hc2 := HB.out.c q2
      have hc3 := HB.out.c q3
      have hkI : (k : Int) < l.length := by omega
      have hmem : y ∈ l := List.mem_of_getElem? hy
      have HC := Lib.hid (HP.out wr HB.out y hmem)
      have HNX : Hid (p y = false → (l.take (k + 1)).any p = false) := fun e => by
        rw [List.take_add_one, hy, List.any_append, HT.out]
        simp [e]
      have HYES : Hid (p y = true → l.any p = true) := fun e => List.any_eq_true.2 ⟨y, hmem, e⟩
      clear hi hy hmem q0 q1 q2 q3
      cases hpy : p y with
      | true =>
        rw [hpy] at HC HYES
        clear hpy
        go_wp2_with (go_at_fn g; refine HC.out.mono ?_; rintro e w4 ⟨rfl, hb4⟩)
        go_ret
        exact ⟨⟨(k : Int), rfl, by constructor <;> intro _ <;> first | exact HYES.out rfl | exact HYES.out trivial | omega⟩, HB.out.then_ hb4⟩
      | false =>
        rw [hpy] at HC HNX
        clear hpy
        go_wp2_with (go_at_fn g; refine HC.out.mono ?_; rintro e w4 ⟨rfl, hb4⟩)
        go_roundw
        case rel => exact ⟨k + 1, by omega, by go_num, HB.out.then_ hb4, by first | exact HNX.out rfl | exact HNX.out trivial⟩
        case measure => simp [intOf]; omega
    · obtain rfl : k = l.length := by omega
      have HN : Hid (l.any p = false) := by show _ = _; have := HT.out; rwa [List.take_length] at this
      clear HT hlt hk
      go_wp2
      go_ret
      exact ⟨⟨-1, rfl, by constructor <;> intro h <;> first | (rw [HN.out] at h; cases h) | (exfalso; omega)⟩, HB.out⟩
theorem slContainsFuncCol_any (g : Nat) (lb : Array Value) (eg : ∀ args w, (callFunc g args).run Tryz.prog w = .ok (.enter g args) w) (p : Col → Bool) (v : Value) (l : List (Col)) (w : World) (h : ColsAt w v l)
    (hp : ∀ W, Bel w W → ∀ x ∈ l, Calls Tryz.prog g (#[x.v] ++ lb) W fun e w' => e = .returned (.bool (p x)) ∧ Bel W w') :
    Calls Tryz.prog 101 #[v, .func (.func g) #[] lb] w fun e w' => e = .returned (.bool (l.any p)) ∧ Bel w w' := by
  have HI := Lib.hid (slIndexFuncCol_any g lb eg p v l w h hp)
  obtain ⟨A, c, rfl, -⟩ := h
  obtain ⟨R, hR⟩ : ∃ R, R = l.any p := ⟨_, rfl⟩
  rw [← hR]
  have HR := Lib.hid hR
  clear hR hp
  go_enter Tryz.func101, Tryz.ntmps101
  go_wp2_with fail
  refine HI.out.mono ?_
  rintro e w' ⟨⟨i, rfl, hi⟩, hb⟩
  have hd : l.any p = decide (0 ≤ i) := by cases h : l.any p <;> simp [h] at hi ⊢ <;> omega
  have HRD : Hid (R = decide (0 ≤ i)) := by show _ = _; rw [HR.out, hd]
  have HB := Lib.hid hb
  clear hi hd HI hb
  go_wp2
  go_ret
  exact ⟨by rw [HRD.out]; rfl, HB.out⟩
end Go.Proofs.YtkklmflclmgjeaaGreatDoor

/-
  Schema: which schemas may be.
-/
set_option linter.unusedVariables false
set_option linter.unusedSimpArgs false
set_option linter.unusedVariables false
set_option linter.unusedSimpArgs false
namespace Go.Proofs.YtkklmflclmgjeaaGreatDoor
open Go.RowKit Go.Shelf Go.Lib
attribute [local go_sem] Oper.semAt_some

theorem str_eq (a b : ByteArray) (w : World) : (binOp .eql 9 (.string a) (.string b)).run Tryz.prog w = .ok (.bool (decide (a = b))) w := by
  go_simp
  by_cases h : a = b
  · simp [h]
  · simp [h, bytes_eq_iff]
theorem str_beq (a b : ByteArray) : (a.toList == b.toList) = decide (a = b) := by by_cases h : a = b <;> simp [h, bytes_eq_iff]
theorem lookCa_any (o : Col) (nm : ByteArray) (bc : Nat) (w : World) (h : w.cell? ⟨bc, 0, none⟩ = some (.string nm)) : Calls Tryz.prog 102 #[o.v, .pointer (some ⟨bc, 0, none⟩)] w fun e w' => e = .returned (.bool (decide (o.name = nm))) ∧ Bel w w' := by
  obtain ⟨name, t, z, null⟩ := o
  have hlt := World.block_lt_of_cell? (w := w) (a := ⟨bc, 0, none⟩) h
  have hne : w.heap.size ≠ bc := by simp at hlt; omega
  have hse := fun W => str_eq name nm W
  unfold Col.v
  dsimp only
  go_enter Tryz.func102, Tryz.ntmps102
  go_wp2
  go_ret
  exact ⟨congrArg (fun x => Ending.returned (Value.bool x)) (str_beq name nm), by (repeat (first | exact Below.refl _ _ | assumption | exact Bel.refl _ | refine Bel.alloc ?_ _ | refine Bel.drew ?_ | refine Bel.drewN ?_ _ | refine Bel.then_ ?_ (by assumption) | refine Bel.setCell ?_ (by first | (simp; done) | (simp; omega)) _))⟩
theorem lookCb_any (vc : Value) (cols : List Col) (i : Nat) (x : Col) (hx : cols[i]? = some x) (bl : Nat) (w : World) (h : w.cell? ⟨bl, 0, none⟩ = some vc) (hv : ColsAt w vc cols) : Calls Tryz.prog 103 #[.int .i64 i, .pointer (some ⟨bl, 0, none⟩)] w fun e w' => e = .returned (.bool x.null) ∧ Bel w w' := by
  obtain ⟨A, c, rfl, hcl, hm, hr⟩ := hv
  have hlt := (List.getElem?_eq_some_iff.1 hx).1
  obtain ⟨b, off, rfl, hi⟩ := hr (by omega)
  obtain ⟨q0, q1, q2, q3⟩ := hi i x hx
  have hiI : (i : Int) < cols.length := by omega
  have hlI : (cols.length : Int) ≤ 9223372036854775807 := by unfold maxLen at hm; omega
  clear hi hr hx
  go_enter Tryz.func103, Tryz.ntmps103
  go_wp2
  go_ret
  exact ⟨by first | rfl | trivial, by (repeat (first | exact Below.refl _ _ | assumption | exact Bel.refl _ | refine Bel.alloc ?_ _ | refine Bel.drew ?_ | refine Bel.drewN ?_ _ | refine Bel.then_ ?_ (by assumption) | refine Bel.setCell ?_ (by first | (simp; done) | (simp; omega)) _))⟩
theorem lookCc_any (Ac : Option Addr) (many cc : Nat) (hmany : many ≤ maxLen) (vk vu v : Value) (l : List Int) (bl : Nat) (w : World) (h0 : w.cell? ⟨bl, 0, none⟩ = some (.slice Ac many cc)) (h1 : w.cell? ⟨bl, 1, none⟩ = some vk) (h2 : w.cell? ⟨bl, 2, none⟩ = some vu) (h : IntsAt w v l) : Calls Tryz.prog 106 #[v, .pointer (some ⟨bl, 0, none⟩)] w fun e w' => e = .returned (.bool (!setB l many)) ∧ Bel w w' := by
  have HS := Lib.hid (lookset_any Ac many cc hmany vk vu v l w h)
  obtain ⟨A, c, rfl, -⟩ := h
  go_enter Tryz.func106, Tryz.ntmps106
  go_wp2_with (go_at_call 100; refine HS.out.mono ?_; rintro e w4 ⟨rfl, hb4⟩)
  go_ret
  exact ⟨rfl, hb4⟩
def colB (cols : List Col) (i : Nat) : Bool := match cols[i]? with
  | some c => rightB c && !(cols.take i).any (fun o => decide (o.name = c.name))
  | none => false
def nullAt (cols : List Col) (n : Int) : Bool := match cols[n.toNat]? with
  | some c => c.null
  | none => false
theorem setB_in {l : List Int} {many : Int} (h : setB l many = true) : ∀ x ∈ l, 0 ≤ x ∧ x < many := by
  intro x hx
  obtain ⟨i, hi⟩ := List.mem_iff_getElem?.1 hx
  have hlt := (List.getElem?_eq_some_iff.1 hi).1
  unfold setB at h
  rw [Bool.and_eq_true, List.all_eq_true] at h
  have := of_decide_eq_true (h.2 i (List.mem_range.2 hlt))
  have hg : l.getD i 0 = x := by simp [List.getD, hi]
  rw [hg] at this
  exact ⟨this.1, this.2.1⟩
/-- May a schema be? -/
def rightS (cols : List Col) (key : List Int) (uq : List (List Int)) : Bool := decide (1 ≤ cols.length ∧ cols.length ≤ 8 ∧ uq.length ≤ 3) && (setB key cols.length && ((List.range cols.length).all (colB cols) && (!key.any (nullAt cols) && !uq.any (fun l => !setB l cols.length))))
set_option maxRecDepth 100000 in
set_option maxHeartbeats 4000000 in
theorem lookright_any (vc vk vu : Value) (cols : List Col) (key : List Int) (uq : List (List Int)) (w : World) (hc : ColsAt w vc cols) (hk : IntsAt w vk key) (hu : ListsAt w vu uq) : Calls Tryz.prog 60 #[.agg #[vc, vk, vu]] w fun e w' => e = .returned (.bool (rightS cols key uq)) ∧ Bel w w' := by
  obtain ⟨R, hR⟩ : ∃ R, R = rightS cols key uq := ⟨_, rfl⟩
  rw [← hR]
  have HR := Lib.hid hR
  clear hR
  have HC := Lib.hid hc
  have HK := Lib.hid hk
  have HU := Lib.hid hu
  obtain ⟨Ac, cc, rfl, hcc, hmc, hrc⟩ := hc
  obtain ⟨Au, cu, rfl, hcu, hmu, hru⟩ := hu
  have HRC := Lib.hid hrc
  have HLS := Lib.hid (fun V (hb : Bel w V) v l (h : IntsAt V v l) => lookset_any Ac cols.length cc (by omega) vk (.slice Au uq.length cu) v l V h)
  have hnI : (cols.length : Int) ≤ 9223372036854775807 := by unfold maxLen at hmc; omega
  have huI : (uq.length : Int) ≤ 9223372036854775807 := by unfold maxLen at hmu; omega
  have hccI : (cols.length : Int) ≤ cc := by omega
  have HMC : Hid (cols.length ≤ maxLen) := by show _ ≤ _; omega
  clear hrc hru hk hmu hmc
  by_cases h1 : 1 ≤ cols.length ∧ cols.length ≤ 8 ∧ uq.length ≤ 3
  · have b1 : decide ((cols.length : Int) < 1) = false := by simp; omega
    have b2 : decide ((8 : Int) < cols.length) = false := by simp; omega
    have b3 : decide ((3 : Int) < uq.length) = false := by simp; omega
    cases hsb : setB key cols.length with
    | false =>
      have hf : R = false := by rw [HR.out]; unfold rightS; rw [hsb]; simp
      obtain ⟨R', hR'⟩ : ∃ R', R' = setB key cols.length := ⟨_, rfl⟩
      have HLS2 := Lib.hid (fun V (hb : Bel w V) => HLS.out V hb _ _ (HK.out.bel hb))
      rw [hsb] at HLS2
      subst hf
      go_enter Tryz.func60, Tryz.ntmps60
      go_wp2_with (go_at_call 100; refine (HLS2.out _ ((Bel.refl w).alloc _)).mono ?_; rintro e w4 ⟨rfl, hb4⟩)
      go_ret
      exact ⟨rfl, ((Bel.refl w).alloc _).then_ hb4⟩
    | true =>
      have HLS2 := Lib.hid (fun V (hb : Bel w V) => HLS.out V hb _ _ (HK.out.bel hb))
      rw [hsb] at HLS2
      have HSB := Lib.hid hsb
      clear hsb
      go_enter Tryz.func60, Tryz.ntmps60
      go_wp2_with (go_at_call 100; refine (HLS2.out _ ((Bel.refl w).alloc _)).mono ?_; rintro e w4 ⟨rfl, hb4⟩; have hl0 : w4.cell? ⟨w.heap.size, 0, none⟩ = some (.slice Ac cols.length cc) := hb4.c (by go_simp); have hl1 : w4.cell? ⟨w.heap.size, 1, none⟩ = some vk := hb4.c (by go_simp); have hl2 : w4.cell? ⟨w.heap.size, 2, none⟩ = some (.slice Au uq.length cu) := hb4.c (by go_simp); have hw4 : Bel w w4 := ((Bel.refl w).alloc _).then_ hb4)
      obtain ⟨b, off, hA, hci⟩ := HRC.out (by omega)
      subst hA
      have HCI := Lib.hid hci
      have HB4 := Lib.hid hb4
      have HW4 := Lib.hid hw4
      have eg1 : ∀ args w, (callFunc 102 args).run Tryz.prog w = .ok (.enter 102 args) w := enters_of Tryz.func102 (by kernel_rfl) rfl
      have eg2 : ∀ args w, (callFunc 103 args).run Tryz.prog w = .ok (.enter 103 args) w := enters_of Tryz.func103 (by kernel_rfl) rfl
      have eg3 : ∀ args w, (callFunc 106 args).run Tryz.prog w = .ok (.enter 106 args) w := enters_of Tryz.func106 (by kernel_rfl) rfl
      have HL0 := Lib.hid hl0
      have HL1 := Lib.hid hl1
      have HL2 := Lib.hid hl2
      clear hci hb4 hw4 hl0 hl1 hl2 HLS2
      go_loopw [37] (fun i wr => ∃ k : Nat, k ≤ cols.length ∧ i = .int .i64 k ∧ Hid (Bel w4 wr) ∧ Hid (∀ j, j < k → colB cols j = true)) (fun i _ => cols.length - (intOf i).toNat)
      case atStart => exact ⟨0, Nat.zero_le _, rfl, Bel.refl w4, fun j hj => by omega⟩
      case round =>
        obtain ⟨k, hk, rfl, HB, HT⟩ := hrel
        have hl0 := HB.out.c HL0.out
        by_cases hlt : k < cols.length
        · obtain ⟨x, hx⟩ : ∃ x, cols[k]? = some x := ⟨_, List.getElem?_eq_getElem hlt⟩
          obtain ⟨q0, q1, q2, q3⟩ := HCI.out k x hx
          have hbw : Bel w wr := HW4.out.then_ HB.out
          have p0 := hbw.c q0
          have p1 := hbw.c q1
          have p2 := hbw.c q2
          have p3 := hbw.c q3
          have hkI : (k : Int) < cols.length := by omega
          have hkcI : (k : Int) ≤ cc := by omega
          have HCB : Hid (colB cols k = (rightB x && !(cols.take k).any (fun o => decide (o.name = x.name)))) := by show _ = _; unfold colB; rw [hx]
          have HNX : Hid (colB cols k = true → ∀ j, j < k + 1 → colB cols j = true) := fun e j hj => by
            by_cases ej : j = k
            · subst ej; exact e
            · exact HT.out j (by omega)
          have HNO : Hid (colB cols k = false → R = false) := fun e => by
            rw [HR.out]; unfold rightS
            have : (List.range cols.length).all (colB cols) = false := by rw [List.all_eq_false]; exact ⟨k, List.mem_range.2 hlt, by simp [e]⟩
            rw [this]; simp
          have hne : wr.heap.size ≠ w.heap.size := by have h1 := hbw.size; have h2 := (World.block_lt_of_cell? (w := wr) (a := ⟨w.heap.size, 0, none⟩) hl0); simp at h2; omega
          have hbx : Bel wr (wr.alloc (.cells #[.string x.name, .int .i64 x.t, .int .i64 x.z, .bool x.null] 44)) := (Bel.refl wr).alloc _
          have HRI := Lib.hid (scright_any x (wr.alloc (.cells #[.string x.name, .int .i64 x.t, .int .i64 x.z, .bool x.null] 44)))
          have HCF := Lib.hid (fun V (hV : Bel (wr.alloc (.cells #[.string x.name, .int .i64 x.t, .int .i64 x.z, .bool x.null] 44)) V) => slContainsFuncCol_any 102 #[.pointer (some ⟨wr.heap.size, 0, none⟩)] eg1 (fun o => decide (o.name = x.name)) (.slice (some ⟨b, off, none⟩) k cc) (cols.take k) V ((HC.out.bel (hbw.then_ (hbx.then_ hV))).take k hk)
            (fun W hW o ho => lookCa_any o x.name wr.heap.size W ((hV.then_ hW).c (by go_simp))))
          have HBW := Lib.hid hbw
          have HBX := Lib.hid hbx
          have HL0x : Hid ((wr.alloc (.cells #[.string x.name, .int .i64 x.t, .int .i64 x.z, .bool x.null] 44)).cell? ⟨w.heap.size, 0, none⟩ = some (.slice (some ⟨b, off, none⟩) cols.length cc)) := hbx.c hl0
          clear hx q0 q1 q2 q3 hbw hbx
          unfold Col.v at HRI
          cases hrb : rightB x with
          | false =>
            have hf : R = false := HNO.out (by rw [HCB.out, hrb]; rfl)
            rw [hrb] at HRI
            clear hrb
            go_wp2_with (go_at_call 96; refine HRI.out.mono ?_; rintro e w5 ⟨rfl, hb5⟩)
            go_ret
            exact ⟨by first | rfl | (rw [hf]; rfl), HBW.out.then_ (HBX.out.then_ hb5)⟩
          | true =>
            rw [hrb] at HRI HCB
            clear hrb
            cases hdup : (cols.take k).any (fun o => decide (o.name = x.name)) with
            | true =>
              have hf : R = false := HNO.out (by rw [HCB.out, hdup]; rfl)
              rw [hdup] at HCF
              clear hdup
              go_wp2_with (first | (go_at_call 96; refine HRI.out.mono ?_; rintro e w5 ⟨rfl, hb5⟩; have hl5 := hb5.c HL0x.out) | (go_at_call 101; refine (HCF.out _ hb5).mono ?_; rintro e w6 ⟨rfl, hb6⟩))
              go_ret
              exact ⟨by first | rfl | (rw [hf]; rfl), HBW.out.then_ ((HBX.out.then_ hb5).then_ hb6)⟩
            | false =>
              have ht := HNX.out (by rw [HCB.out, hdup]; rfl)
              have HTT := Lib.hid ht
              rw [hdup] at HCF
              clear hdup ht
              go_wp2_with (first | (go_at_call 96; refine HRI.out.mono ?_; rintro e w5 ⟨rfl, hb5⟩; have hl5 := hb5.c HL0x.out) | (go_at_call 101; refine (HCF.out _ hb5).mono ?_; rintro e w6 ⟨rfl, hb6⟩))
              go_roundw
              case rel => exact ⟨k + 1, by omega, by go_num, HB.out.then_ ((HBX.out.then_ hb5).then_ hb6), HTT.out⟩
              case measure => simp [intOf]; omega
        · obtain rfl : k = cols.length := by omega
          have hl1 := HB.out.c HL1.out
          have hl2 := HB.out.c HL2.out
          have HRN : Hid (R = (!key.any (nullAt cols) && !uq.any (fun l => !setB l cols.length))) := by
            show _ = _
            rw [HR.out]; unfold rightS
            have : (List.range cols.length).all (colB cols) = true := by rw [List.all_eq_true]; exact fun i hi => HT.out i (List.mem_range.1 hi)
            rw [decide_eq_true h1, HSB.out, this]; rfl
          clear HT hlt hk
          have hbw : Bel w wr := HW4.out.then_ HB.out
          have HBW := Lib.hid hbw
          have HKF := Lib.hid (slContainsFuncInt_any 103 #[.pointer (some ⟨w.heap.size, 0, none⟩)] eg2 (nullAt cols) vk key wr (HK.out.bel hbw) (fun W hW x hx => by
            obtain ⟨g0, g1⟩ := setB_in HSB.out x hx
            obtain ⟨n, rfl⟩ := Int.eq_ofNat_of_zero_le g0
            have hn : n < cols.length := by omega
            have hcx : cols[n]? = some cols[n] := List.getElem?_eq_getElem hn
            have hnul : nullAt cols (n : Int) = cols[n].null := by unfold nullAt; simp [hcx]
            rw [hnul]
            exact lookCb_any _ cols n cols[n] hcx w.heap.size W (hW.c hl0) (HC.out.bel (hbw.then_ hW))))
          have HUF := Lib.hid (fun V (hV : Bel wr V) => slContainsFuncInts_any 106 #[.pointer (some ⟨w.heap.size, 0, none⟩)] eg3 (fun l => !setB l cols.length) (.slice Au uq.length cu) uq V (HU.out.bel (hbw.then_ hV)) (fun W hW l hl u hu => lookCc_any _ cols.length cc HMC.out vk (.slice Au uq.length cu) u l w.heap.size W ((hV.then_ hW).c hl0) ((hV.then_ hW).c hl1) ((hV.then_ hW).c hl2) hu))
          clear hbw
          cases hkn : key.any (nullAt cols) with
          | true =>
            rw [hkn] at HKF HRN
            clear hkn
            go_wp2_with (go_at_call 104; refine HKF.out.mono ?_; rintro e w5 ⟨rfl, hb5⟩)
            go_ret
            exact ⟨by rw [HRN.out]; rfl, HBW.out.then_ hb5⟩
          | false =>
            rw [hkn] at HKF HRN
            clear hkn
            go_wp2_with (first | (go_at_call 104; refine HKF.out.mono ?_; rintro e w5 ⟨rfl, hb5⟩; have hl5 := hb5.c hl2) | (go_at_call 105; refine (HUF.out _ hb5).mono ?_; rintro e w6 ⟨rfl, hb6⟩))
            go_ret
            exact ⟨by rw [HRN.out]; rfl, HBW.out.then_ (hb5.then_ hb6)⟩
  · have hf : R = false := by rw [HR.out]; unfold rightS; rw [decide_eq_false h1]; rfl
    subst hf
    by_cases n1 : (cols.length : Int) < 1
    · have b4 : decide ((1 : Int) ≤ cols.length) = false := by simp; omega
      go_enter Tryz.func60, Tryz.ntmps60
      go_wp2_with fail
      all_goals
        go_ret
        exact ⟨rfl, by (repeat (first | exact Below.refl _ _ | assumption | exact Bel.refl _ | refine Bel.alloc ?_ _ | refine Bel.drew ?_ | refine Bel.drewN ?_ _ | refine Bel.then_ ?_ (by assumption) | refine Bel.setCell ?_ (by first | (simp; done) | (simp; omega)) _))⟩
    · have n1b : decide ((cols.length : Int) < 1) = false := by simp; omega
      by_cases n2 : (8 : Int) < cols.length
      · go_enter Tryz.func60, Tryz.ntmps60
        go_wp2_with fail
        all_goals
          go_ret
          exact ⟨rfl, by (repeat (first | exact Below.refl _ _ | assumption | exact Bel.refl _ | refine Bel.alloc ?_ _ | refine Bel.drew ?_ | refine Bel.drewN ?_ _ | refine Bel.then_ ?_ (by assumption) | refine Bel.setCell ?_ (by first | (simp; done) | (simp; omega)) _))⟩
      · have n2b : decide ((8 : Int) < cols.length) = false := by simp; omega
        have n3 : (3 : Int) < uq.length := by omega
        go_enter Tryz.func60, Tryz.ntmps60
        go_wp2_with fail
        all_goals
          go_ret
          exact ⟨rfl, by (repeat (first | exact Below.refl _ _ | assumption | exact Bel.refl _ | refine Bel.alloc ?_ _ | refine Bel.drew ?_ | refine Bel.drewN ?_ _ | refine Bel.then_ ?_ (by assumption) | refine Bel.setCell ?_ (by first | (simp; done) | (simp; omega)) _))⟩
end Go.Proofs.YtkklmflclmgjeaaGreatDoor

/-
  The document's answer for layer 3: columns.
-/
set_option linter.unusedVariables false
set_option linter.unusedSimpArgs false
set_option linter.unusedVariables false
set_option linter.unusedSimpArgs false
namespace Go.Proofs.YtkklmflclmgjeaaGreatDoor
open Go.RowKit Go.Shelf Go.Lib
attribute [local go_sem] Oper.semAt_some

set_option maxHeartbeats 4000000 in
theorem tcolumn_any (c : Col) (hm : c.name.size ≤ 9223372036854775807) (w : World) : Calls Tryz.prog 56 #[c.v] w fun e w' => e = .returned (.bool (rightB c)) ∧ Bel w w' := by
  obtain ⟨name, t, z, null⟩ := c
  obtain ⟨nb, hnb⟩ : ∃ nb, nb = namedB name := ⟨_, rfl⟩
  have HNM := Lib.hid (fun V => tName_any name hm V)
  rw [← hnb] at HNM
  have hR : rightB ⟨name, t, z, null⟩ = (decide (1 ≤ t ∧ t ≤ 4) && nb && sizeB t z) := by unfold rightB; rw [hnb]
  rw [hR]
  clear hR hnb hm
  unfold Col.v
  dsimp only
  by_cases ht : 1 ≤ t ∧ t ≤ 4
  · have hc : t = 1 ∨ t = 2 ∨ t = 3 ∨ t = 4 := by omega
    clear ht
    rcases hc with rfl | rfl | rfl | rfl
    all_goals
      cases nb
      all_goals
        simp only [Bool.and_false, Bool.false_and, Bool.and_true, Bool.true_and, sizeB]
        go_enter Tryz.func56, Tryz.ntmps56
        go_wp2_with (go_at_call 99; refine (HNM.out _).mono ?_; rintro e w' ⟨rfl, rfl⟩)
        all_goals
          go_ret
          refine ⟨?_, by (repeat (first | exact Below.refl _ _ | assumption | exact Bel.refl _ | refine Bel.alloc ?_ _ | refine Bel.drew ?_ | refine Bel.drewN ?_ _ | refine Bel.then_ ?_ (by assumption) | refine Bel.setCell ?_ (by first | (simp; done) | (simp; omega)) _))⟩
          show Ending.returned (Value.bool _) = _
          simp_all
          try first | omega | (rw [Bool.eq_iff_iff]; simp; done) | (rw [Bool.eq_iff_iff]; simp; omega)
  · rw [decide_eq_false ht]
    have h1 : (t == 1) = false := by rw [beq_eq_false_iff_ne]; omega
    have h2 : (t == 2) = false := by rw [beq_eq_false_iff_ne]; omega
    have h3 : (t == 3) = false := by rw [beq_eq_false_iff_ne]; omega
    have h4 : (t == 4) = false := by rw [beq_eq_false_iff_ne]; omega
    clear ht
    go_enter Tryz.func56, Tryz.ntmps56
    go_wp2_with fail
    go_ret
    exact ⟨rfl, by (repeat (first | exact Below.refl _ _ | assumption | exact Bel.refl _ | refine Bel.alloc ?_ _ | refine Bel.drew ?_ | refine Bel.drewN ?_ _ | refine Bel.then_ ?_ (by assumption) | refine Bel.setCell ?_ (by first | (simp; done) | (simp; omega)) _))⟩
end Go.Proofs.YtkklmflclmgjeaaGreatDoor

/-
  The document: sets of places, which schemas may be.
-/
set_option linter.unusedVariables false
set_option linter.unusedSimpArgs false
set_option linter.unusedVariables false
set_option linter.unusedSimpArgs false
namespace Go.Proofs.YtkklmflclmgjeaaGreatDoor
open Go.RowKit Go.Shelf Go.Lib
attribute [local go_sem] Oper.semAt_some

set_option maxRecDepth 100000 in
set_option maxHeartbeats 4000000 in
theorem tset_any (v : Value) (l : List Int) (many : Nat) (w : World) (h : IntsAt w v l) : Calls Tryz.prog 69 #[v, .int .i64 many] w fun e w' => e = .returned (.bool (setB l many)) ∧ Bel w w' := by
  obtain ⟨R, hR⟩ : ∃ R, R = setB l many := ⟨_, rfl⟩
  rw [← hR]
  have HR := Lib.hid hR
  clear hR
  obtain ⟨A, c, rfl, hcl, hm, hr⟩ := h
  have hlI : (l.length : Int) ≤ 9223372036854775807 := by unfold maxLen at hm; omega
  have HRR := Lib.hid hr
  clear hr hm
  go_enter Tryz.func69, Tryz.ntmps69
  go_wp2
  go_loopw [5] (fun i wr => ∃ k : Nat, k ≤ l.length ∧ k ≤ 5 ∧ i = .int .i64 k ∧ Hid (∀ j, j < k → inB l many j = true) ∧ Hid (Bel w wr)) (fun i _ => 5 - (intOf i).toNat)
  case atStart => exact ⟨0, Nat.zero_le _, by omega, rfl, fun j hj => by omega, Bel.refl w⟩
  case round =>
    obtain ⟨k, hk, hk5, rfl, HT, HB⟩ := hrel
    by_cases hlt : k < l.length ∧ k < 5
    · obtain ⟨hltl, hlt5⟩ := hlt
      obtain ⟨x, hx⟩ : ∃ x, l[k]? = some x := ⟨_, List.getElem?_eq_getElem hltl⟩
      obtain ⟨b, off, rfl, hi⟩ := HRR.out (by omega)
      have hc1 := HB.out.c (hi k x hx)
      have HI := Lib.hid hi
      have hkI : (k : Int) < l.length := by omega
      have hk5I : (k : Int) < 5 := by omega
      have hgx : l.getD k 0 = x := by simp [List.getD, hx]
      have HIN : Hid (inB l many k = decide (0 ≤ x ∧ x < many ∧ x ∉ l.take k)) := by show _ = _; unfold inB; rw [hgx]
      have HNX : Hid (inB l many k = true → ∀ j, j < k + 1 → inB l many j = true) := fun e j hj => by
        by_cases ej : j = k
        · subst ej; exact e
        · exact HT.out j (by omega)
      have HNO : Hid (inB l many k = false → R = false) := fun e => by rw [HR.out]; exact setB_false hltl e
      clear hi hx hgx HRR
      by_cases hx0 : x < 0
      · have hf := HNO.out (by rw [HIN.out]; exact decide_eq_false (by omega))
        go_wp2
        go_ret
        exact ⟨by first | rfl | (rw [hf]; rfl), by first | exact HB.out | exact HB.out.then_ HBI.out.drew⟩
      · have hx0b : decide (x < 0) = false := by simp; omega
        by_cases hxm : (many : Int) ≤ x
        · have hf := HNO.out (by rw [HIN.out]; exact decide_eq_false (by omega))
          go_wp2
          go_ret
          exact ⟨by first | rfl | (rw [hf]; rfl), by first | exact HB.out | exact HB.out.then_ HBI.out.drew⟩
        · have hxmb : decide ((many : Int) ≤ x) = false := by simp; omega
          go_wp2
          go_loopw [6] (fun i wi => ∃ j : Nat, j ≤ k ∧ i = .int .i64 j ∧ Hid (x ∉ l.take j) ∧ Hid (Bel wr wi)) (fun i _ => k - (intOf i).toNat)
          case atStart => exact ⟨0, Nat.zero_le _, rfl, (by show _ ∉ _; simp), Bel.refl wr⟩
          case round =>
            rename_i wi
            obtain ⟨j, hj, rfl, HJ, HBI⟩ := hrel
            by_cases hjk : j < k
            · obtain ⟨y, hy⟩ : ∃ y, l[j]? = some y := ⟨_, List.getElem?_eq_getElem (by omega)⟩
              have hcj := (HBI.out.drew).c (HB.out.c (HI.out j y hy))
              have hck := (HBI.out.drew).c hc1
              have hjI : (j : Int) < k := by omega
              have hjl : (j : Int) < l.length := by omega
              have HMEM : Hid (y ∈ l.take k) := List.mem_of_getElem? (i := j) (by rw [List.getElem?_take, if_pos hjk]; exact hy)
              have HJN : Hid (¬ x = y → x ∉ l.take (j + 1)) := fun e => by
                rw [List.take_add_one, hy]
                intro hm
                rcases List.mem_append.1 hm with hm | hm
                · exact HJ.out hm
                · simp at hm; exact e hm
              clear hy
              by_cases hxy : y = x
              · have hf := HNO.out (by rw [HIN.out]; exact decide_eq_false (fun e => e.2.2 (by rw [← hxy]; exact HMEM.out)))
                subst hxy
                go_wp2
                refine wp_region_noPanic ?_
                refine wp_region_held_drew (S := (fun V : World => V.cell? ⟨b, off + j, none⟩ = some (.int .i64 y) ∧ V.cell? ⟨b, off + k, none⟩ = some (.int .i64 y))) (by kernel_rfl) ?_ (fun hHr1_0 => ?_)
                · (try dsimp only); exact ⟨hcj, hck⟩
                refine wpAnyH_take (i := 0) (oi := _) (v := ?vr1_1_0) rfl (by kernel_rfl) (by kernel_rfl) (by kernel_rfl) ?hqr1_1_0 (Or.inl ⟨by kernel_rfl, ?hyr1_1_0⟩) (by assumption) ?restr1_1_0
                case hqr1_1_0 => exact fun _ _ _ h => h
                case hyr1_1_0 => (intro w hSw; (try dsimp only at hSw); go_simp; try with_reducible rfl)
                try simp only [Act.put, List.getElem_toArray, List.getElem_cons_succ, List.getElem_cons_zero, List.setIfInBounds_toArray, List.set_cons_zero, List.set_cons_succ]
                refine wpAnyH_take (i := 1) (oi := _) (v := ?vr1_1_1) rfl (by kernel_rfl) (by kernel_rfl) (by kernel_rfl) ?hqr1_1_1 (Or.inl ⟨by kernel_rfl, ?hyr1_1_1⟩) (by assumption) ?restr1_1_1
                case hqr1_1_1 => exact fun _ _ _ h => h
                case hyr1_1_1 => (intro w hSw; (try dsimp only at hSw); go_simp; try with_reducible rfl)
                try simp only [Act.put, List.getElem_toArray, List.getElem_cons_succ, List.getElem_cons_zero, List.setIfInBounds_toArray, List.set_cons_zero, List.set_cons_succ]
                refine wpAnyH_take (i := 2) (oi := _) (v := ?vr1_1_2) rfl (by kernel_rfl) (by kernel_rfl) (by kernel_rfl) ?hqr1_1_2 (Or.inl ⟨by kernel_rfl, ?hyr1_1_2⟩) (by assumption) ?restr1_1_2
                case hqr1_1_2 => exact fun _ _ _ h => h
                case hyr1_1_2 => (intro w hSw; (try dsimp only at hSw); go_simp; try with_reducible rfl)
                try simp only [Act.put, List.getElem_toArray, List.getElem_cons_succ, List.getElem_cons_zero, List.setIfInBounds_toArray, List.set_cons_zero, List.set_cons_succ]
                refine wpAnyH_take (i := 3) (oi := _) (v := ?vr1_1_3) rfl (by kernel_rfl) (by kernel_rfl) (by kernel_rfl) ?hqr1_1_3 (Or.inl ⟨by kernel_rfl, ?hyr1_1_3⟩) (by assumption) ?restr1_1_3
                case hqr1_1_3 => exact fun _ _ _ h => h
                case hyr1_1_3 => (intro w hSw; (try dsimp only at hSw); go_simp; try with_reducible rfl)
                try simp only [Act.put, List.getElem_toArray, List.getElem_cons_succ, List.getElem_cons_zero, List.setIfInBounds_toArray, List.set_cons_zero, List.set_cons_succ]
                refine wpAnyH_take (i := 4) (oi := _) (v := ?vr1_1_4) rfl (by kernel_rfl) (by kernel_rfl) (by kernel_rfl) ?hqr1_1_4 (Or.inl ⟨by kernel_rfl, ?hyr1_1_4⟩) (by assumption) ?restr1_1_4
                case hqr1_1_4 => exact fun _ _ _ h => h
                case hyr1_1_4 => (intro w hSw; (try dsimp only at hSw); go_simp; try with_reducible rfl)
                try simp only [Act.put, List.getElem_toArray, List.getElem_cons_succ, List.getElem_cons_zero, List.setIfInBounds_toArray, List.set_cons_zero, List.set_cons_succ]
                refine wpAnyH_take (i := 5) (oi := _) (v := ?vr1_1_5) rfl (by kernel_rfl) (by kernel_rfl) (by kernel_rfl) ?hqr1_1_5 (Or.inl ⟨by kernel_rfl, ?hyr1_1_5⟩) (by assumption) ?restr1_1_5
                case hqr1_1_5 => exact fun _ _ _ h => h
                case hyr1_1_5 => (intro w hSw; (try dsimp only at hSw); go_simp; try with_reducible rfl)
                try simp only [Act.put, List.getElem_toArray, List.getElem_cons_succ, List.getElem_cons_zero, List.setIfInBounds_toArray, List.set_cons_zero, List.set_cons_succ]
                refine wpAnyH_take (i := 6) (oi := _) (v := ?vr1_1_6) rfl (by kernel_rfl) (by kernel_rfl) (by kernel_rfl) ?hqr1_1_6 (Or.inl ⟨by kernel_rfl, ?hyr1_1_6⟩) (by assumption) ?restr1_1_6
                case hqr1_1_6 => exact fun _ _ _ h => h
                case hyr1_1_6 => (intro w hSw; (try dsimp only at hSw); go_simp; try with_reducible rfl)
                try simp only [Act.put, List.getElem_toArray, List.getElem_cons_succ, List.getElem_cons_zero, List.setIfInBounds_toArray, List.set_cons_zero, List.set_cons_succ]
                refine wpAnyH_take (i := 7) (oi := _) (v := ?vr1_1_7) rfl (by kernel_rfl) (by kernel_rfl) (by kernel_rfl) ?hqr1_1_7 (Or.inl ⟨by kernel_rfl, ?hyr1_1_7⟩) (by assumption) ?restr1_1_7
                case hqr1_1_7 => exact fun _ _ _ h => h
                case hyr1_1_7 => (intro w hSw; (try dsimp only at hSw); go_simp; try with_reducible rfl)
                try simp only [Act.put, List.getElem_toArray, List.getElem_cons_succ, List.getElem_cons_zero, List.setIfInBounds_toArray, List.set_cons_zero, List.set_cons_succ]
                refine wpAnyH_take (i := 8) (oi := _) (v := ?vr1_1_8) rfl (by kernel_rfl) (by kernel_rfl) (by kernel_rfl) ?hqr1_1_8 (Or.inl ⟨by kernel_rfl, ?hyr1_1_8⟩) (by assumption) ?restr1_1_8
                case hqr1_1_8 => exact fun _ _ _ h => h
                case hyr1_1_8 => (intro w hSw; (try dsimp only at hSw); go_simp; try with_reducible rfl)
                try simp only [Act.put, List.getElem_toArray, List.getElem_cons_succ, List.getElem_cons_zero, List.setIfInBounds_toArray, List.set_cons_zero, List.set_cons_succ]
                refine wpAnyH_done (by kernel_rfl) ?_ _
                refine NoPanic.normal ?_
                go_wp2
                go_ret
                exact ⟨by first | rfl | (rw [hf]; rfl), by first | exact HB.out | exact HB.out.then_ HBI.out.drew⟩
              · have hb : (y == x) = false := by rw [beq_eq_false_iff_ne]; exact hxy
                go_wp2
                refine wp_region_noPanic ?_
                refine wp_region_held_drew (S := (fun V : World => V.cell? ⟨b, off + j, none⟩ = some (.int .i64 y) ∧ V.cell? ⟨b, off + k, none⟩ = some (.int .i64 x))) (by kernel_rfl) ?_ (fun hHr2_0 => ?_)
                · (try dsimp only); exact ⟨hcj, hck⟩
                refine wpAnyH_take (i := 0) (oi := _) (v := ?vr2_1_0) rfl (by kernel_rfl) (by kernel_rfl) (by kernel_rfl) ?hqr2_1_0 (Or.inl ⟨by kernel_rfl, ?hyr2_1_0⟩) (by assumption) ?restr2_1_0
                case hqr2_1_0 => exact fun _ _ _ h => h
                case hyr2_1_0 => (intro w hSw; (try dsimp only at hSw); go_simp; try with_reducible rfl)
                try simp only [Act.put, List.getElem_toArray, List.getElem_cons_succ, List.getElem_cons_zero, List.setIfInBounds_toArray, List.set_cons_zero, List.set_cons_succ]
                refine wpAnyH_take (i := 1) (oi := _) (v := ?vr2_1_1) rfl (by kernel_rfl) (by kernel_rfl) (by kernel_rfl) ?hqr2_1_1 (Or.inl ⟨by kernel_rfl, ?hyr2_1_1⟩) (by assumption) ?restr2_1_1
                case hqr2_1_1 => exact fun _ _ _ h => h
                case hyr2_1_1 => (intro w hSw; (try dsimp only at hSw); go_simp; try with_reducible rfl)
                try simp only [Act.put, List.getElem_toArray, List.getElem_cons_succ, List.getElem_cons_zero, List.setIfInBounds_toArray, List.set_cons_zero, List.set_cons_succ]
                refine wpAnyH_take (i := 2) (oi := _) (v := ?vr2_1_2) rfl (by kernel_rfl) (by kernel_rfl) (by kernel_rfl) ?hqr2_1_2 (Or.inl ⟨by kernel_rfl, ?hyr2_1_2⟩) (by assumption) ?restr2_1_2
                case hqr2_1_2 => exact fun _ _ _ h => h
                case hyr2_1_2 => (intro w hSw; (try dsimp only at hSw); go_simp; try with_reducible rfl)
                try simp only [Act.put, List.getElem_toArray, List.getElem_cons_succ, List.getElem_cons_zero, List.setIfInBounds_toArray, List.set_cons_zero, List.set_cons_succ]
                refine wpAnyH_take (i := 3) (oi := _) (v := ?vr2_1_3) rfl (by kernel_rfl) (by kernel_rfl) (by kernel_rfl) ?hqr2_1_3 (Or.inl ⟨by kernel_rfl, ?hyr2_1_3⟩) (by assumption) ?restr2_1_3
                case hqr2_1_3 => exact fun _ _ _ h => h
                case hyr2_1_3 => (intro w hSw; (try dsimp only at hSw); go_simp; try with_reducible rfl)
                try simp only [Act.put, List.getElem_toArray, List.getElem_cons_succ, List.getElem_cons_zero, List.setIfInBounds_toArray, List.set_cons_zero, List.set_cons_succ]
                refine wpAnyH_take (i := 4) (oi := _) (v := ?vr2_1_4) rfl (by kernel_rfl) (by kernel_rfl) (by kernel_rfl) ?hqr2_1_4 (Or.inl ⟨by kernel_rfl, ?hyr2_1_4⟩) (by assumption) ?restr2_1_4
                case hqr2_1_4 => exact fun _ _ _ h => h
                case hyr2_1_4 => (intro w hSw; (try dsimp only at hSw); go_simp; try with_reducible rfl)
                try simp only [Act.put, List.getElem_toArray, List.getElem_cons_succ, List.getElem_cons_zero, List.setIfInBounds_toArray, List.set_cons_zero, List.set_cons_succ]
                refine wpAnyH_take (i := 5) (oi := _) (v := ?vr2_1_5) rfl (by kernel_rfl) (by kernel_rfl) (by kernel_rfl) ?hqr2_1_5 (Or.inl ⟨by kernel_rfl, ?hyr2_1_5⟩) (by assumption) ?restr2_1_5
                case hqr2_1_5 => exact fun _ _ _ h => h
                case hyr2_1_5 => (intro w hSw; (try dsimp only at hSw); go_simp; try with_reducible rfl)
                try simp only [Act.put, List.getElem_toArray, List.getElem_cons_succ, List.getElem_cons_zero, List.setIfInBounds_toArray, List.set_cons_zero, List.set_cons_succ]
                refine wpAnyH_take (i := 6) (oi := _) (v := ?vr2_1_6) rfl (by kernel_rfl) (by kernel_rfl) (by kernel_rfl) ?hqr2_1_6 (Or.inl ⟨by kernel_rfl, ?hyr2_1_6⟩) (by assumption) ?restr2_1_6
                case hqr2_1_6 => exact fun _ _ _ h => h
                case hyr2_1_6 => (intro w hSw; (try dsimp only at hSw); go_simp; try with_reducible rfl)
                try simp only [Act.put, List.getElem_toArray, List.getElem_cons_succ, List.getElem_cons_zero, List.setIfInBounds_toArray, List.set_cons_zero, List.set_cons_succ]
                refine wpAnyH_take (i := 7) (oi := _) (v := ?vr2_1_7) rfl (by kernel_rfl) (by kernel_rfl) (by kernel_rfl) ?hqr2_1_7 (Or.inl ⟨by kernel_rfl, ?hyr2_1_7⟩) (by assumption) ?restr2_1_7
                case hqr2_1_7 => exact fun _ _ _ h => h
                case hyr2_1_7 => (intro w hSw; (try dsimp only at hSw); go_simp; try with_reducible rfl)
                try simp only [Act.put, List.getElem_toArray, List.getElem_cons_succ, List.getElem_cons_zero, List.setIfInBounds_toArray, List.set_cons_zero, List.set_cons_succ]
                refine wpAnyH_take (i := 8) (oi := _) (v := ?vr2_1_8) rfl (by kernel_rfl) (by kernel_rfl) (by kernel_rfl) ?hqr2_1_8 (Or.inl ⟨by kernel_rfl, ?hyr2_1_8⟩) (by assumption) ?restr2_1_8
                case hqr2_1_8 => exact fun _ _ _ h => h
                case hyr2_1_8 => (intro w hSw; (try dsimp only at hSw); go_simp; try with_reducible rfl)
                try simp only [Act.put, List.getElem_toArray, List.getElem_cons_succ, List.getElem_cons_zero, List.setIfInBounds_toArray, List.set_cons_zero, List.set_cons_succ]
                refine wpAnyH_done (by kernel_rfl) ?_ _
                refine NoPanic.normal ?_
                go_wp2
                go_roundw
                case rel => exact ⟨j + 1, by omega, by go_num, HJN.out (fun e => hxy e.symm), HBI.out.drew⟩
                case measure => simp [intOf]; omega
            · obtain rfl : j = k := by omega
              have ht := HNX.out (by rw [HIN.out]; exact decide_eq_true ⟨by omega, by omega, HJ.out⟩)
              have HTT := Lib.hid ht
              clear ht HJ
              go_wp2
              go_roundw
              case rel => exact ⟨j + 1, by omega, by omega, by go_num, HTT.out, HB.out.then_ HBI.out⟩
              case measure => simp [intOf]; omega
    · by_cases h5 : k = 5
      · subst h5
        have HRV : Hid (R = decide (l.length ≤ 4)) := by
          show _ = _
          rw [HR.out]
          rw [decide_eq_false (by omega)]
          unfold setB
          rw [decide_eq_false (by omega)]
          rfl
        have h4 : (4 : Int) < l.length := by omega
        have h4b : decide ((l.length : Int) ≤ 4) = false := by simp; omega
        have h1 : (1 : Int) ≤ l.length := by omega
        have h5I : (5 : Int) ≤ l.length := by omega
        have hf : R = false := by rw [HRV.out]; exact decide_eq_false (by omega)
        clear HT hlt
        go_wp2
        all_goals
          go_ret
          exact ⟨by first | rfl | (rw [hf]; rfl), by first | exact HB.out | exact HB.out.then_ HBI.out.drew⟩
      · obtain rfl : k = l.length := by omega
        have h5b : (l.length : Int) < 5 := by omega
        have h4 : (l.length : Int) ≤ 4 := by omega
        by_cases h1 : 1 ≤ l.length
        · have h1I : (1 : Int) ≤ l.length := by omega
          have ht : R = true := by rw [HR.out]; exact setB_true ⟨h1, by omega⟩ HT.out
          clear HT hlt
          go_wp2
          go_ret
          exact ⟨by first | rfl | (rw [ht]; rfl), by first | exact HB.out | exact HB.out.then_ HBI.out.drew⟩
        · have h1I : decide ((1 : Int) ≤ l.length) = false := by simp; omega
          have h1J : decide (1 ≤ l.length) = false := by rw [decide_eq_false_iff_not]; exact h1
          have hf : R = false := by rw [HR.out]; unfold setB; rw [decide_eq_false (by omega)]; rfl
          clear HT hlt
          go_wp2
          all_goals
            go_ret
            exact ⟨by first | rfl | (rw [hf]; rfl), by first | exact HB.out | exact HB.out.then_ HBI.out.drew⟩
end Go.Proofs.YtkklmflclmgjeaaGreatDoor
