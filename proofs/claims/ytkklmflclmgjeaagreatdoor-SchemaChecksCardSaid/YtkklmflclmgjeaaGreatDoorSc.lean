/-
  Values: which may be.
-/
import Derived.Test.YtkklmflclmgjeaaGreatDoorSb
set_option linter.unusedVariables false
set_option linter.unusedSimpArgs false
set_option linter.unusedVariables false
set_option linter.unusedSimpArgs false
namespace Go.Proofs.YtkklmflclmgjeaaGreatDoor
open Go.RowKit Go.Shelf Go.Lib
attribute [local go_sem] Oper.semAt_some

def vkV (a b : Nat) : Value := .agg #[.func (.func a) #[] #[], .func (.func b) #[] #[]]
def vkE (a b : Nat) (k : Int) (j : Nat) : MapEntry := { key := .int .i64 k, val := vkV a b, born := j }
def vkMap : Array MapEntry := #[vkE 163 164 0 0, vkE 165 166 1 1, vkE 168 169 2 2, vkE 171 172 3 3, vkE 174 175 4 4]
theorem vkinds_at (w : World) : Calls Tryz.prog 140 #[] w fun e w' => e = .returned (.map (some w.heap.size)) ∧ w.alloc (.map vkMap 5) = w' := by
  have hmm := @run_makeMap Tryz.prog
  have u1 := run_mapUpdate_fresh (P := Tryz.prog) (T := 206) (K := 45) (E := 204) (k := .i64) Tryz.underlying206 Tryz.underlying45 (es := #[]) (a := 0) rfl 0 (vkV 163 164) w
  have u2 := run_mapUpdate_fresh (P := Tryz.prog) (T := 206) (K := 45) (E := 204) (k := .i64) Tryz.underlying206 Tryz.underlying45 (es := #[vkE 163 164 0 0]) (a := 1) rfl 1 (vkV 165 166) w
  have u3 := run_mapUpdate_fresh (P := Tryz.prog) (T := 206) (K := 45) (E := 204) (k := .i64) Tryz.underlying206 Tryz.underlying45 (es := #[vkE 163 164 0 0, vkE 165 166 1 1]) (a := 2) rfl 2 (vkV 168 169) w
  have u4 := run_mapUpdate_fresh (P := Tryz.prog) (T := 206) (K := 45) (E := 204) (k := .i64) Tryz.underlying206 Tryz.underlying45 (es := #[vkE 163 164 0 0, vkE 165 166 1 1, vkE 168 169 2 2]) (a := 3) rfl 3 (vkV 171 172) w
  have u5 := run_mapUpdate_fresh (P := Tryz.prog) (T := 206) (K := 45) (E := 204) (k := .i64) Tryz.underlying206 Tryz.underlying45 (es := #[vkE 163 164 0 0, vkE 165 166 1 1, vkE 168 169 2 2, vkE 171 172 3 3]) (a := 4) rfl 4 (vkV 174 175) w
  simp only [List.push_toArray, List.nil_append, List.cons_append, Nat.reduceAdd] at u1 u2 u3 u4 u5
  simp only [vkE, vkV] at u1 u2 u3 u4 u5
  go_enter Tryz.func140, Tryz.ntmps140
  go_wp2
  go_ret
  exact ⟨rfl, rfl⟩
theorem vkinds_any (w : World) : Calls Tryz.prog 140 #[] w fun e w' => ∃ b, e = .returned (.map (some b)) ∧ w'.heap[b]? = some (.map vkMap 5) ∧ Bel w w' :=
  (vkinds_at w).mono fun e w' ⟨he, hw⟩ => ⟨_, he, by rw [← hw]; exact World.alloc_heap_new _ _, by rw [← hw]; exact (Bel.refl w).alloc _⟩
def vkOf : Int → Value
  | 0 => vkV 163 164
  | 1 => vkV 165 166
  | 2 => vkV 168 169
  | 3 => vkV 171 172
  | _ => vkV 174 175
theorem vkLook {t : Int} (h1 : 0 ≤ t) (h4 : t ≤ 4) {b : Nat} {V : World} (hb : V.heap[b]? = some (.map vkMap 5)) :
    (Instr.lookup 206 (.map (some b)) (.int .i64 t) true).run Tryz.prog V = .ok (.tuple #[vkOf t, .bool true]) V := by
  have hc : t = 0 ∨ t = 1 ∨ t = 2 ∨ t = 3 ∨ t = 4 := by omega
  rcases hc with rfl | rfl | rfl | rfl | rfl
  · exact run_lookup_int_ok (k := .i64) Tryz.underlying206 Tryz.underlying45 (i := 0) rfl hb
  · exact run_lookup_int_ok (k := .i64) Tryz.underlying206 Tryz.underlying45 (i := 1) rfl hb
  · exact run_lookup_int_ok (k := .i64) Tryz.underlying206 Tryz.underlying45 (i := 2) rfl hb
  · exact run_lookup_int_ok (k := .i64) Tryz.underlying206 Tryz.underlying45 (i := 3) rfl hb
  · exact run_lookup_int_ok (k := .i64) Tryz.underlying206 Tryz.underlying45 (i := 4) rfl hb
theorem vkLookNo {t : Int} (h : ¬ (0 ≤ t ∧ t ≤ 4)) {b : Nat} {V : World} (hb : V.heap[b]? = some (.map vkMap 5)) :
    (Instr.lookup 206 (.map (some b)) (.int .i64 t) true).run Tryz.prog V = .ok (.tuple #[.agg #[.nilFunc, .nilFunc], .bool false]) V := by
  refine run_lookup_int_none (k := .i64) Tryz.underlying206 Tryz.underlying45 ?_ ?_ hb
  · have h0 : (t == 0) = false := by rw [beq_eq_false_iff_ne]; omega
    have h1 : (t == 1) = false := by rw [beq_eq_false_iff_ne]; omega
    have h2 : (t == 2) = false := by rw [beq_eq_false_iff_ne]; omega
    have h3 : (t == 3) = false := by rw [beq_eq_false_iff_ne]; omega
    have h4 : (t == 4) = false := by rw [beq_eq_false_iff_ne]; omega
    simp [vkMap, vkE, Instr.findNow, Instr.sameNow, h0, h1, h2, h3, h4]
  · kernel_rfl
def Val.bare (x : Val) : Val := ⟨x.k, if x.k = 1 ∨ x.k = 3 then x.n else 0, if x.k = 2 then x.u else 0, if x.k = 4 then x.b else ⟨#[]⟩⟩
theorem vbare_any (x : Val) (w : World) : Calls Tryz.prog 141 #[x.v] w fun e w' => e = .returned x.bare.v ∧ Bel w w' := by
  obtain ⟨k, n, u, b⟩ := x
  by_cases hk : 0 ≤ k ∧ k ≤ 4
  · have hc : k = 0 ∨ k = 1 ∨ k = 2 ∨ k = 3 ∨ k = 4 := by omega
    clear hk
    rcases hc with rfl | rfl | rfl | rfl | rfl
    all_goals
      show Calls Tryz.prog 141 #[.agg #[.int .i64 _, .int .i64 n, .int .u64 u, .string b]] w _
      go_enter Tryz.func141, Tryz.ntmps141
      go_wp2
      refine bodyPost_ret (v := _) (by simp [results, Tryz.results141, go_sem]; rfl) rfl ⟨by simp [Val.bare, Val.v], by (repeat (first | exact Below.refl _ _ | assumption | exact Bel.refl _ | refine Bel.alloc ?_ _ | refine Bel.drew ?_ | refine Bel.drewN ?_ _ | refine Bel.then_ ?_ (by assumption) | refine Bel.setCell ?_ (by first | (simp; done) | (simp; omega)) _))⟩
  · have h1 : (k == 1) = false := by rw [beq_eq_false_iff_ne]; omega
    have h2 : (k == 2) = false := by rw [beq_eq_false_iff_ne]; omega
    have h3 : (k == 3) = false := by rw [beq_eq_false_iff_ne]; omega
    have h4 : (k == 4) = false := by rw [beq_eq_false_iff_ne]; omega
    have hb : (Val.bare ⟨k, n, u, b⟩) = ⟨k, 0, 0, ⟨#[]⟩⟩ := by
      unfold Val.bare
      dsimp only
      rw [if_neg (by omega), if_neg (by omega), if_neg (by omega)]
    rw [hb]
    clear hb hk
    show Calls Tryz.prog 141 #[.agg #[.int .i64 _, .int .i64 n, .int .u64 u, .string b]] w _
    go_enter Tryz.func141, Tryz.ntmps141
    go_wp2
    refine bodyPost_ret (v := _) (by simp [results, Tryz.results141, go_sem]; rfl) rfl ⟨rfl, by (repeat (first | exact Below.refl _ _ | assumption | exact Bel.refl _ | refine Bel.alloc ?_ _ | refine Bel.drew ?_ | refine Bel.drewN ?_ _ | refine Bel.then_ ?_ (by assumption) | refine Bel.setCell ?_ (by first | (simp; done) | (simp; omega)) _))⟩
theorem bytes_eq_iff {d d' : ByteArray} : d.toList = d'.toList ↔ d = d' := ⟨fun h => WideShapes.bytes_inj (by rwa [ByteArray.toList_eq, ByteArray.toList_eq] at h), fun h => by rw [h]⟩
theorem val_ne (x y : Val) (w : World) : (binOp .neq 48 x.v y.v).run Tryz.prog w = .ok (.bool (decide (x ≠ y))) w := by
  obtain ⟨a, b, c, d⟩ := x
  obtain ⟨a', b', c', d'⟩ := y
  unfold Val.v
  dsimp only
  go_simp
  simp only [bytes_eq_iff]
  by_cases h1 : a = a' <;> by_cases h2 : b = b' <;> by_cases h3 : c = c' <;> by_cases h4 : d = d' <;> simp [h1, h2, h3, h4]
theorem vmay_any (f : Nat) (hf : f = 163 ∨ f = 165 ∨ f = 168 ∨ f = 174) (x : Val) (w : World) : Calls Tryz.prog f #[x.v] w fun e w' => e = .returned (.bool true) ∧ Bel w w' := by
  obtain ⟨k, n, u, b⟩ := x
  unfold Val.v
  dsimp only
  rcases hf with rfl | rfl | rfl | rfl
  · go_enter Tryz.func163, Tryz.ntmps163
    go_wp2
    go_ret
    exact ⟨rfl, by (repeat (first | exact Below.refl _ _ | assumption | exact Bel.refl _ | refine Bel.alloc ?_ _ | refine Bel.drew ?_ | refine Bel.drewN ?_ _ | refine Bel.then_ ?_ (by assumption) | refine Bel.setCell ?_ (by first | (simp; done) | (simp; omega)) _))⟩
  · go_enter Tryz.func165, Tryz.ntmps165
    go_wp2
    go_ret
    exact ⟨rfl, by (repeat (first | exact Below.refl _ _ | assumption | exact Bel.refl _ | refine Bel.alloc ?_ _ | refine Bel.drew ?_ | refine Bel.drewN ?_ _ | refine Bel.then_ ?_ (by assumption) | refine Bel.setCell ?_ (by first | (simp; done) | (simp; omega)) _))⟩
  · go_enter Tryz.func168, Tryz.ntmps168
    go_wp2
    go_ret
    exact ⟨rfl, by (repeat (first | exact Below.refl _ _ | assumption | exact Bel.refl _ | refine Bel.alloc ?_ _ | refine Bel.drew ?_ | refine Bel.drewN ?_ _ | refine Bel.then_ ?_ (by assumption) | refine Bel.setCell ?_ (by first | (simp; done) | (simp; omega)) _))⟩
  · go_enter Tryz.func174, Tryz.ntmps174
    go_wp2
    go_ret
    exact ⟨rfl, by (repeat (first | exact Below.refl _ _ | assumption | exact Bel.refl _ | refine Bel.alloc ?_ _ | refine Bel.drew ?_ | refine Bel.drewN ?_ _ | refine Bel.then_ ?_ (by assumption) | refine Bel.setCell ?_ (by first | (simp; done) | (simp; omega)) _))⟩
theorem vmayBool_any (x : Val) (w : World) : Calls Tryz.prog 171 #[x.v] w fun e w' => e = .returned (.bool (decide (x.n = 0 ∨ x.n = 1))) ∧ Bel w w' := by
  obtain ⟨k, n, u, b⟩ := x
  unfold Val.v
  dsimp only
  by_cases h : n = 0
  · subst h
    go_enter Tryz.func171, Tryz.ntmps171
    go_wp2
    go_ret
    exact ⟨rfl, by (repeat (first | exact Below.refl _ _ | assumption | exact Bel.refl _ | refine Bel.alloc ?_ _ | refine Bel.drew ?_ | refine Bel.drewN ?_ _ | refine Bel.then_ ?_ (by assumption) | refine Bel.setCell ?_ (by first | (simp; done) | (simp; omega)) _))⟩
  · by_cases h2 : n = 1
    · subst h2
      go_enter Tryz.func171, Tryz.ntmps171
      go_wp2
      go_ret
      exact ⟨rfl, by (repeat (first | exact Below.refl _ _ | assumption | exact Bel.refl _ | refine Bel.alloc ?_ _ | refine Bel.drew ?_ | refine Bel.drewN ?_ _ | refine Bel.then_ ?_ (by assumption) | refine Bel.setCell ?_ (by first | (simp; done) | (simp; omega)) _))⟩
    · have h1 : (n == 0) = false := by rw [beq_eq_false_iff_ne]; exact h
      have h3 : (n == 1) = false := by rw [beq_eq_false_iff_ne]; exact h2
      rw [decide_eq_false (by omega)]
      go_enter Tryz.func171, Tryz.ntmps171
      go_wp2
      go_ret
      exact ⟨by first | rfl | simp [h1, h3], by (repeat (first | exact Below.refl _ _ | assumption | exact Bel.refl _ | refine Bel.alloc ?_ _ | refine Bel.drew ?_ | refine Bel.drewN ?_ _ | refine Bel.then_ ?_ (by assumption) | refine Bel.setCell ?_ (by first | (simp; done) | (simp; omega)) _))⟩
def mayB (x : Val) : Bool := decide (x.k = 3 → x.n = 0 ∨ x.n = 1)
theorem vkOf_is {t : Int} (h1 : 0 ≤ t) (h4 : t ≤ 4) : ∃ f g, vkOf t = vkV f g ∧ (∀ args w, (callFunc f args).run Tryz.prog w = .ok (.enter f args) w) ∧
    ∀ x : Val, x.k = t → ∀ w, Calls Tryz.prog f #[x.v] w fun e w' => e = .returned (.bool (mayB x)) ∧ Bel w w' := by
  have hc : t = 0 ∨ t = 1 ∨ t = 2 ∨ t = 3 ∨ t = 4 := by omega
  have hm : ∀ x : Val, x.k ≠ 3 → mayB x = true := fun x h => decide_eq_true (fun e => absurd e h)
  rcases hc with rfl | rfl | rfl | rfl | rfl
  · exact ⟨_, _, rfl, enters_of Tryz.func163 (by kernel_rfl) rfl, fun x hx w => by rw [hm x (by omega)]; exact vmay_any _ (by decide) x w⟩
  · exact ⟨_, _, rfl, enters_of Tryz.func165 (by kernel_rfl) rfl, fun x hx w => by rw [hm x (by omega)]; exact vmay_any _ (by decide) x w⟩
  · exact ⟨_, _, rfl, enters_of Tryz.func168 (by kernel_rfl) rfl, fun x hx w => by rw [hm x (by omega)]; exact vmay_any _ (by decide) x w⟩
  · exact ⟨_, _, rfl, enters_of Tryz.func171 (by kernel_rfl) rfl, fun x hx w => by
      have : mayB x = decide (x.n = 0 ∨ x.n = 1) := by unfold mayB; simp [hx]
      rw [this]
      exact vmayBool_any x w⟩
  · exact ⟨_, _, rfl, enters_of Tryz.func174 (by kernel_rfl) rfl, fun x hx w => by rw [hm x (by omega)]; exact vmay_any _ (by decide) x w⟩
def checkI (x : Val) : Int := if x.k < 0 ∨ 4 < x.k ∨ x ≠ x.bare ∨ mayB x = false then 2 else if 200 < x.b.size then 3 else 0
set_option maxRecDepth 100000 in
set_option maxHeartbeats 4000000 in
theorem vCheck_any (x : Val) (w : World) : Calls Tryz.prog 97 #[x.v] w fun e w' => e = .returned (.int .i64 (checkI x)) ∧ Bel w w' := by
  obtain ⟨k, n, u, b⟩ := x
  obtain ⟨R, hR⟩ : ∃ R, R = checkI ⟨k, n, u, b⟩ := ⟨_, rfl⟩
  rw [← hR]
  have HR := Lib.hid hR
  clear hR
  unfold Val.v
  dsimp only
  by_cases ht : 0 ≤ k ∧ k ≤ 4
  · obtain ⟨f, g, hk, egf, hsz⟩ := vkOf_is ht.1 ht.2
    have HSZ := Lib.hid (fun V => hsz ⟨k, n, u, b⟩ rfl V)
    clear hsz
    have HLO := Lib.hid (fun (b : Nat) (V : World) (hb : V.heap[b]? = some (.map vkMap 5)) => vkLook ht.1 ht.2 hb)
    rw [hk] at HLO
    unfold vkV at HLO
    have HK := Lib.hid hk
    have HT := Lib.hid ht
    clear hk ht
    go_enter Tryz.func97, Tryz.ntmps97
    go_wp2
    obtain ⟨w1, hw1⟩ : ∃ w1, w1 = w.alloc (.cells #[.int .i64 k, .int .i64 n, .int .u64 u, .string b] 48) := ⟨_, rfl⟩
    rw [← hw1]
    have hb1 : Bel w w1 := by rw [hw1]; exact (Bel.refl w).alloc _
    have hc0 : w1.cell? ⟨w.heap.size, 0, none⟩ = some (.int .i64 k) := by rw [hw1]; go_simp
    have hc1 : w1.cell? ⟨w.heap.size, 1, none⟩ = some (.int .i64 n) := by rw [hw1]; go_simp
    have hc2 : w1.cell? ⟨w.heap.size, 2, none⟩ = some (.int .u64 u) := by rw [hw1]; go_simp
    have hc3 : w1.cell? ⟨w.heap.size, 3, none⟩ = some (.string b) := by rw [hw1]; go_simp
    clear hw1
    have hS : ∀ V, Bel w1 V → (Bel w1 V ∧ V.cell? ⟨w.heap.size, 0, none⟩ = some (.int .i64 k)) := fun V h => ⟨h, h.c hc0⟩
    apply wp_cut2 (R := fun bm bx V => Bel w1 V ∧ V.cell? ⟨bx, 0, none⟩ = some (.func (.func f) #[] #[]))
    case h =>
      refine wp_region_noPanic ?_
      refine wp_region_held_drew (S := (fun V : World => Bel w1 V ∧ V.cell? ⟨w.heap.size, 0, none⟩ = some (.int .i64 k))) (by kernel_rfl) ?_ (fun hHr1_0 => ?_)
      · (try dsimp only); (first | assumption | exact hS _ (Bel.refl w1).drew | exact hS _ hB2 | exact hS _ (Bel.alloc hB2 _) | exact hS _ (Bel.alloc (Bel.refl w1).drew _) | exact hS _ (Bel.setCell (Bel.setCell hB2 (Nat.le_refl _) _) (Nat.le_refl _) _))
      refine wpAnyH_take (i := 1) (oi := _) (v := ?vr1_1_1) rfl (by kernel_rfl) (by kernel_rfl) (by kernel_rfl) ?hqr1_1_1 (Or.inl ⟨by kernel_rfl, ?hyr1_1_1⟩) (by assumption) ?restr1_1_1
      case hqr1_1_1 => exact fun _ _ _ h => h
      case hyr1_1_1 => (intro w hSw; (try dsimp only at hSw); go_simp; try with_reducible rfl)
      try simp only [Act.put, List.getElem_toArray, List.getElem_cons_succ, List.getElem_cons_zero, List.setIfInBounds_toArray, List.set_cons_zero, List.set_cons_succ]
      refine wpAnyH_take (i := 2) (oi := _) (v := ?vr1_1_2) rfl (by kernel_rfl) (by kernel_rfl) (by kernel_rfl) ?hqr1_1_2 (Or.inl ⟨by kernel_rfl, ?hyr1_1_2⟩) (by assumption) ?restr1_1_2
      case hqr1_1_2 => exact fun _ _ _ h => h
      case hyr1_1_2 => (intro w hSw; (try dsimp only at hSw); go_simp; try with_reducible rfl)
      try simp only [Act.put, List.getElem_toArray, List.getElem_cons_succ, List.getElem_cons_zero, List.setIfInBounds_toArray, List.set_cons_zero, List.set_cons_succ]
      refine wpAnyH_ready (rs := [0, 7]) (by kernel_rfl) (by simp) ?_
      refine AllReadyH.cons (o := _) rfl (fun K hK => ?_) (AllReadyH.cons (o := _) rfl (fun K hK => ?_) (AllReadyH.nil))
      · go_simp
        (go_at_call 140; refine (vkinds_any _).mono ?_; rintro e w2 ⟨bm, rfl, hm, hb2⟩; have hB2 : Bel w1 w2 := Bel.then_ (Bel.refl w1).drew hb2)
        try (go_wp2_with fail)
        refine hK.out _ _ ?_ (fun hHr1_1 => ?_)
        · (try dsimp only); (first | assumption | exact hS _ (Bel.refl w1).drew | exact hS _ hB2 | exact hS _ (Bel.alloc hB2 _) | exact hS _ (Bel.alloc (Bel.refl w1).drew _) | exact hS _ (Bel.setCell (Bel.setCell hB2 (Nat.le_refl _) _) (Nat.le_refl _) _))
        clear hK K hHr1_0
        try simp only [Act.put, List.getElem_toArray, List.getElem_cons_succ, List.getElem_cons_zero, List.setIfInBounds_toArray, List.set_cons_zero, List.set_cons_succ]
        refine wpAnyH_ready (rs := [3, 7]) (by kernel_rfl) (by simp) ?_
        refine AllReadyH.cons (o := _) rfl (fun K hK => ?_) (AllReadyH.cons (o := _) rfl (fun K hK => ?_) (AllReadyH.nil))
        · go_simp
          ((have hlk := HLO.out bm _ hm); go_simp)
          refine hK.out _ _ ?_ (fun hHr1_2 => ?_)
          · (try dsimp only); (first | assumption | exact hS _ (Bel.refl w1).drew | exact hS _ hB2 | exact hS _ (Bel.alloc hB2 _) | exact hS _ (Bel.alloc (Bel.refl w1).drew _) | exact hS _ (Bel.setCell (Bel.setCell hB2 (Nat.le_refl _) _) (Nat.le_refl _) _))
          clear hK K hHr1_1
          try simp only [Act.put, List.getElem_toArray, List.getElem_cons_succ, List.getElem_cons_zero, List.setIfInBounds_toArray, List.set_cons_zero, List.set_cons_succ]
          refine wpAnyH_take (i := 4) (oi := _) (v := ?vr1_3_4) rfl (by kernel_rfl) (by kernel_rfl) (by kernel_rfl) ?hqr1_3_4 (Or.inl ⟨by kernel_rfl, ?hyr1_3_4⟩) (by assumption) ?restr1_3_4
          case hqr1_3_4 => exact fun _ _ _ h => h
          case hyr1_3_4 => (intro w hSw; (try dsimp only at hSw); go_simp; try with_reducible rfl)
          try simp only [Act.put, List.getElem_toArray, List.getElem_cons_succ, List.getElem_cons_zero, List.setIfInBounds_toArray, List.set_cons_zero, List.set_cons_succ]
          refine wpAnyH_take (i := 5) (oi := _) (v := ?vr1_3_5) rfl (by kernel_rfl) (by kernel_rfl) (by kernel_rfl) ?hqr1_3_5 (Or.inl ⟨by kernel_rfl, ?hyr1_3_5⟩) (by assumption) ?restr1_3_5
          case hqr1_3_5 => exact fun _ _ _ h => h
          case hyr1_3_5 => (intro w hSw; (try dsimp only at hSw); go_simp; try with_reducible rfl)
          try simp only [Act.put, List.getElem_toArray, List.getElem_cons_succ, List.getElem_cons_zero, List.setIfInBounds_toArray, List.set_cons_zero, List.set_cons_succ]
          refine wpAnyH_take (i := 6) (oi := _) (v := ?vr1_3_6) rfl (by kernel_rfl) (by kernel_rfl) (by kernel_rfl) ?hqr1_3_6 (Or.inl ⟨by kernel_rfl, ?hyr1_3_6⟩) (by assumption) ?restr1_3_6
          case hqr1_3_6 => exact fun _ _ _ h => h
          case hyr1_3_6 => (intro w hSw; (try dsimp only at hSw); go_simp; try with_reducible rfl)
          try simp only [Act.put, List.getElem_toArray, List.getElem_cons_succ, List.getElem_cons_zero, List.setIfInBounds_toArray, List.set_cons_zero, List.set_cons_succ]
          refine wpAnyH_ready (rs := [7]) (by kernel_rfl) (by simp) ?_
          refine AllReadyH.cons (o := _) rfl (fun K hK => ?_) AllReadyH.nil
          go_simp
          refine hK.out _ _ ?_ (fun hHr1_3 => ?_)
          · (try dsimp only); (first | assumption | exact hS _ (Bel.refl w1).drew | exact hS _ hB2 | exact hS _ (Bel.alloc hB2 _) | exact hS _ (Bel.alloc (Bel.refl w1).drew _) | exact hS _ (Bel.setCell (Bel.setCell hB2 (Nat.le_refl _) _) (Nat.le_refl _) _))
          clear hK K hHr1_2
          try simp only [Act.put, List.getElem_toArray, List.getElem_cons_succ, List.getElem_cons_zero, List.setIfInBounds_toArray, List.set_cons_zero, List.set_cons_succ]
          refine wpAnyH_ready (rs := [8]) (by kernel_rfl) (by simp) ?_
          refine AllReadyH.cons (o := _) rfl (fun K hK => ?_) AllReadyH.nil
          go_simp
          refine hK.out _ _ ?_ (fun hHr1_4 => ?_)
          · (try dsimp only); (first | assumption | exact hS _ (Bel.refl w1).drew | exact hS _ hB2 | exact hS _ (Bel.alloc hB2 _) | exact hS _ (Bel.alloc (Bel.refl w1).drew _) | exact hS _ (Bel.setCell (Bel.setCell hB2 (Nat.le_refl _) _) (Nat.le_refl _) _))
          clear hK K hHr1_3
          try simp only [Act.put, List.getElem_toArray, List.getElem_cons_succ, List.getElem_cons_zero, List.setIfInBounds_toArray, List.set_cons_zero, List.set_cons_succ]
          refine wpAnyH_take (i := 9) (oi := _) (v := ?vr1_3_9) rfl (by kernel_rfl) (by kernel_rfl) (by kernel_rfl) ?hqr1_3_9 (Or.inl ⟨by kernel_rfl, ?hyr1_3_9⟩) (by assumption) ?restr1_3_9
          case hqr1_3_9 => exact fun _ _ _ h => h
          case hyr1_3_9 => (intro w hSw; (try dsimp only at hSw); go_simp; try with_reducible rfl)
          try simp only [Act.put, List.getElem_toArray, List.getElem_cons_succ, List.getElem_cons_zero, List.setIfInBounds_toArray, List.set_cons_zero, List.set_cons_succ]
          refine wpAnyH_done (by kernel_rfl) ?_ _
          refine NoPanic.normal ?_
          (refine ⟨bm, w2.heap.size, rfl, ?_, hHr1_4.1, by go_simp⟩; generalize w2.heap.size = bx; exact rfl)
        · go_simp
          refine hK.out _ _ ?_ (fun hHr1_2 => ?_)
          · (try dsimp only); (first | assumption | exact hS _ (Bel.refl w1).drew | exact hS _ hB2 | exact hS _ (Bel.alloc hB2 _) | exact hS _ (Bel.alloc (Bel.refl w1).drew _) | exact hS _ (Bel.setCell (Bel.setCell hB2 (Nat.le_refl _) _) (Nat.le_refl _) _))
          clear hK K hHr1_1
          try simp only [Act.put, List.getElem_toArray, List.getElem_cons_succ, List.getElem_cons_zero, List.setIfInBounds_toArray, List.set_cons_zero, List.set_cons_succ]
          refine wpAnyH_ready (rs := [3]) (by kernel_rfl) (by simp) ?_
          refine AllReadyH.cons (o := _) rfl (fun K hK => ?_) AllReadyH.nil
          go_simp
          ((have hlk := HLO.out bm _ (((Bel.refl w2).alloc (.cells #[.nilFunc, .nilFunc] 204)).deferred hm)); go_simp)
          refine hK.out _ _ ?_ (fun hHr1_3 => ?_)
          · (try dsimp only); (first | assumption | exact hS _ (Bel.refl w1).drew | exact hS _ hB2 | exact hS _ (Bel.alloc hB2 _) | exact hS _ (Bel.alloc (Bel.refl w1).drew _) | exact hS _ (Bel.setCell (Bel.setCell hB2 (Nat.le_refl _) _) (Nat.le_refl _) _))
          clear hK K hHr1_2
          try simp only [Act.put, List.getElem_toArray, List.getElem_cons_succ, List.getElem_cons_zero, List.setIfInBounds_toArray, List.set_cons_zero, List.set_cons_succ]
          refine wpAnyH_take (i := 4) (oi := _) (v := ?vr1_4_4) rfl (by kernel_rfl) (by kernel_rfl) (by kernel_rfl) ?hqr1_4_4 (Or.inl ⟨by kernel_rfl, ?hyr1_4_4⟩) (by assumption) ?restr1_4_4
          case hqr1_4_4 => exact fun _ _ _ h => h
          case hyr1_4_4 => (intro w hSw; (try dsimp only at hSw); go_simp; try with_reducible rfl)
          try simp only [Act.put, List.getElem_toArray, List.getElem_cons_succ, List.getElem_cons_zero, List.setIfInBounds_toArray, List.set_cons_zero, List.set_cons_succ]
          refine wpAnyH_take (i := 5) (oi := _) (v := ?vr1_4_5) rfl (by kernel_rfl) (by kernel_rfl) (by kernel_rfl) ?hqr1_4_5 (Or.inl ⟨by kernel_rfl, ?hyr1_4_5⟩) (by assumption) ?restr1_4_5
          case hqr1_4_5 => exact fun _ _ _ h => h
          case hyr1_4_5 => (intro w hSw; (try dsimp only at hSw); go_simp; try with_reducible rfl)
          try simp only [Act.put, List.getElem_toArray, List.getElem_cons_succ, List.getElem_cons_zero, List.setIfInBounds_toArray, List.set_cons_zero, List.set_cons_succ]
          refine wpAnyH_take (i := 6) (oi := _) (v := ?vr1_4_6) rfl (by kernel_rfl) (by kernel_rfl) (by kernel_rfl) ?hqr1_4_6 (Or.inl ⟨by kernel_rfl, ?hyr1_4_6⟩) (by assumption) ?restr1_4_6
          case hqr1_4_6 => exact fun _ _ _ h => h
          case hyr1_4_6 => (intro w hSw; (try dsimp only at hSw); go_simp; try with_reducible rfl)
          try simp only [Act.put, List.getElem_toArray, List.getElem_cons_succ, List.getElem_cons_zero, List.setIfInBounds_toArray, List.set_cons_zero, List.set_cons_succ]
          refine wpAnyH_ready (rs := [8]) (by kernel_rfl) (by simp) ?_
          refine AllReadyH.cons (o := _) rfl (fun K hK => ?_) AllReadyH.nil
          go_simp
          refine hK.out _ _ ?_ (fun hHr1_4 => ?_)
          · (try dsimp only); (first | assumption | exact hS _ (Bel.refl w1).drew | exact hS _ hB2 | exact hS _ (Bel.alloc hB2 _) | exact hS _ (Bel.alloc (Bel.refl w1).drew _) | exact hS _ (Bel.setCell (Bel.setCell hB2 (Nat.le_refl _) _) (Nat.le_refl _) _))
          clear hK K hHr1_3
          try simp only [Act.put, List.getElem_toArray, List.getElem_cons_succ, List.getElem_cons_zero, List.setIfInBounds_toArray, List.set_cons_zero, List.set_cons_succ]
          refine wpAnyH_take (i := 9) (oi := _) (v := ?vr1_4_9) rfl (by kernel_rfl) (by kernel_rfl) (by kernel_rfl) ?hqr1_4_9 (Or.inl ⟨by kernel_rfl, ?hyr1_4_9⟩) (by assumption) ?restr1_4_9
          case hqr1_4_9 => exact fun _ _ _ h => h
          case hyr1_4_9 => (intro w hSw; (try dsimp only at hSw); go_simp; try with_reducible rfl)
          try simp only [Act.put, List.getElem_toArray, List.getElem_cons_succ, List.getElem_cons_zero, List.setIfInBounds_toArray, List.set_cons_zero, List.set_cons_succ]
          refine wpAnyH_done (by kernel_rfl) ?_ _
          refine NoPanic.normal ?_
          (refine ⟨bm, w2.heap.size, rfl, ?_, hHr1_4.1, by go_simp⟩; generalize w2.heap.size = bx; exact rfl)
      · go_simp
        refine hK.out _ _ ?_ (fun hHr1_1 => ?_)
        · (try dsimp only); (first | assumption | exact hS _ (Bel.refl w1).drew | exact hS _ hB2 | exact hS _ (Bel.alloc hB2 _) | exact hS _ (Bel.alloc (Bel.refl w1).drew _) | exact hS _ (Bel.setCell (Bel.setCell hB2 (Nat.le_refl _) _) (Nat.le_refl _) _))
        clear hK K hHr1_0
        try simp only [Act.put, List.getElem_toArray, List.getElem_cons_succ, List.getElem_cons_zero, List.setIfInBounds_toArray, List.set_cons_zero, List.set_cons_succ]
        refine wpAnyH_ready (rs := [0]) (by kernel_rfl) (by simp) ?_
        refine AllReadyH.cons (o := _) rfl (fun K hK => ?_) AllReadyH.nil
        go_simp
        (go_at_call 140; refine (vkinds_any _).mono ?_; rintro e w2 ⟨bm, rfl, hm, hb2⟩; have hB2 : Bel w1 w2 := Bel.then_ (Bel.alloc (Bel.refl w1).drew _) hb2; have z0 : w2.cell? ⟨w1.heap.size, 0, none⟩ = some .nilFunc := hb2.c (by go_simp); have z1 : w2.cell? ⟨w1.heap.size, 1, none⟩ = some .nilFunc := hb2.c (by go_simp); have y0 : w2.frozen? ⟨w1.heap.size, 0, none⟩ = false := (Below.frozen hb2 (by simp)).trans (by go_simp); have y1 : w2.frozen? ⟨w1.heap.size, 1, none⟩ = false := (Below.frozen hb2 (by simp)).trans (by go_simp))
        try (go_wp2_with fail)
        refine hK.out _ _ ?_ (fun hHr1_2 => ?_)
        · (try dsimp only); (first | assumption | exact hS _ (Bel.refl w1).drew | exact hS _ hB2 | exact hS _ (Bel.alloc hB2 _) | exact hS _ (Bel.alloc (Bel.refl w1).drew _) | exact hS _ (Bel.setCell (Bel.setCell hB2 (Nat.le_refl _) _) (Nat.le_refl _) _))
        clear hK K hHr1_1
        try simp only [Act.put, List.getElem_toArray, List.getElem_cons_succ, List.getElem_cons_zero, List.setIfInBounds_toArray, List.set_cons_zero, List.set_cons_succ]
        refine wpAnyH_ready (rs := [3]) (by kernel_rfl) (by simp) ?_
        refine AllReadyH.cons (o := _) rfl (fun K hK => ?_) AllReadyH.nil
        go_simp
        ((have hlk := HLO.out bm _ hm); go_simp)
        refine hK.out _ _ ?_ (fun hHr1_3 => ?_)
        · (try dsimp only); (first | assumption | exact hS _ (Bel.refl w1).drew | exact hS _ hB2 | exact hS _ (Bel.alloc hB2 _) | exact hS _ (Bel.alloc (Bel.refl w1).drew _) | exact hS _ (Bel.setCell (Bel.setCell hB2 (Nat.le_refl _) _) (Nat.le_refl _) _))
        clear hK K hHr1_2
        try simp only [Act.put, List.getElem_toArray, List.getElem_cons_succ, List.getElem_cons_zero, List.setIfInBounds_toArray, List.set_cons_zero, List.set_cons_succ]
        refine wpAnyH_take (i := 4) (oi := _) (v := ?vr1_5_4) rfl (by kernel_rfl) (by kernel_rfl) (by kernel_rfl) ?hqr1_5_4 (Or.inl ⟨by kernel_rfl, ?hyr1_5_4⟩) (by assumption) ?restr1_5_4
        case hqr1_5_4 => exact fun _ _ _ h => h
        case hyr1_5_4 => (intro w hSw; (try dsimp only at hSw); go_simp; try with_reducible rfl)
        try simp only [Act.put, List.getElem_toArray, List.getElem_cons_succ, List.getElem_cons_zero, List.setIfInBounds_toArray, List.set_cons_zero, List.set_cons_succ]
        refine wpAnyH_take (i := 5) (oi := _) (v := ?vr1_5_5) rfl (by kernel_rfl) (by kernel_rfl) (by kernel_rfl) ?hqr1_5_5 (Or.inl ⟨by kernel_rfl, ?hyr1_5_5⟩) (by assumption) ?restr1_5_5
        case hqr1_5_5 => exact fun _ _ _ h => h
        case hyr1_5_5 => (intro w hSw; (try dsimp only at hSw); go_simp; try with_reducible rfl)
        try simp only [Act.put, List.getElem_toArray, List.getElem_cons_succ, List.getElem_cons_zero, List.setIfInBounds_toArray, List.set_cons_zero, List.set_cons_succ]
        refine wpAnyH_take (i := 6) (oi := _) (v := ?vr1_5_6) rfl (by kernel_rfl) (by kernel_rfl) (by kernel_rfl) ?hqr1_5_6 (Or.inl ⟨by kernel_rfl, ?hyr1_5_6⟩) (by assumption) ?restr1_5_6
        case hqr1_5_6 => exact fun _ _ _ h => h
        case hyr1_5_6 => (intro w hSw; (try dsimp only at hSw); go_simp; try with_reducible rfl)
        try simp only [Act.put, List.getElem_toArray, List.getElem_cons_succ, List.getElem_cons_zero, List.setIfInBounds_toArray, List.set_cons_zero, List.set_cons_succ]
        refine wpAnyH_ready (rs := [8]) (by kernel_rfl) (by simp) ?_
        refine AllReadyH.cons (o := _) rfl (fun K hK => ?_) AllReadyH.nil
        go_simp
        refine hK.out _ _ ?_ (fun hHr1_4 => ?_)
        · (try dsimp only); (first | assumption | exact hS _ (Bel.refl w1).drew | exact hS _ hB2 | exact hS _ (Bel.alloc hB2 _) | exact hS _ (Bel.alloc (Bel.refl w1).drew _) | exact hS _ (Bel.setCell (Bel.setCell hB2 (Nat.le_refl _) _) (Nat.le_refl _) _))
        clear hK K hHr1_3
        try simp only [Act.put, List.getElem_toArray, List.getElem_cons_succ, List.getElem_cons_zero, List.setIfInBounds_toArray, List.set_cons_zero, List.set_cons_succ]
        refine wpAnyH_take (i := 9) (oi := _) (v := ?vr1_5_9) rfl (by kernel_rfl) (by kernel_rfl) (by kernel_rfl) ?hqr1_5_9 (Or.inl ⟨by kernel_rfl, ?hyr1_5_9⟩) (by assumption) ?restr1_5_9
        case hqr1_5_9 => exact fun _ _ _ h => h
        case hyr1_5_9 => (intro w hSw; (try dsimp only at hSw); go_simp; try with_reducible rfl)
        try simp only [Act.put, List.getElem_toArray, List.getElem_cons_succ, List.getElem_cons_zero, List.setIfInBounds_toArray, List.set_cons_zero, List.set_cons_succ]
        refine wpAnyH_done (by kernel_rfl) ?_ _
        refine NoPanic.normal ?_
        (refine ⟨bm, w1.heap.size, rfl, ?_, hHr1_4.1, by go_simp⟩; generalize w1.heap.size = bx; exact rfl)
    case k =>
      rintro bm bx V ⟨hb, hk0⟩
      have HB := Lib.hid (hb1.then_ hb)
      have hd0 := hb.c hc0
      have hd1 := hb.c hc1
      have hd2 := hb.c hc2
      have hd3 := hb.c hc3
      clear hS hb1 hb hc0 hc1 hc2 hc3
      go_wp2
      have hS : ∀ V', Bel V V' → (Bel V V' ∧ V'.cell? ⟨w.heap.size, 0, none⟩ = some (.int .i64 k) ∧ V'.cell? ⟨w.heap.size, 1, none⟩ = some (.int .i64 n) ∧ V'.cell? ⟨w.heap.size, 2, none⟩ = some (.int .u64 u) ∧ V'.cell? ⟨w.heap.size, 3, none⟩ = some (.string b) ∧ V'.cell? ⟨bx, 0, none⟩ = some (.func (.func f) #[] #[])) := fun V' h => ⟨h, h.c hd0, h.c hd1, h.c hd2, h.c hd3, h.c hk0⟩
      obtain ⟨nb, hnb⟩ : ∃ nb, nb = decide ((⟨k, n, u, b⟩ : Val) ≠ Val.bare ⟨k, n, u, b⟩) := ⟨_, rfl⟩
      have hne : ∀ W, (binOp .neq 48 (.agg #[.int .i64 k, .int .i64 n, .int .u64 u, .string b]) (Val.bare ⟨k, n, u, b⟩).v).run Tryz.prog W = .ok (.bool nb) W := fun W => by rw [hnb]; exact val_ne ⟨k, n, u, b⟩ _ W
      have HNB := Lib.hid hnb
      have HVB := Lib.hid (fun W => vbare_any ⟨k, n, u, b⟩ W)
      clear hnb hd0 hd1 hd2 hd3 hk0
      obtain ⟨ys, hys⟩ : ∃ ys, (Val.bare ⟨k, n, u, b⟩).v = .agg ys := ⟨_, rfl⟩
      rw [hys] at hne HVB
      clear hys
      obtain ⟨mb, hmb⟩ : ∃ mb, mb = mayB ⟨k, n, u, b⟩ := ⟨_, rfl⟩
      rw [← hmb] at HSZ
      have HMB := Lib.hid hmb
      clear hmb
      cases nb
      · refine wp_region_noPanic ?_
        refine wp_region_held_drew (S := (fun V' : World => Bel V V' ∧ V'.cell? ⟨w.heap.size, 0, none⟩ = some (.int .i64 k) ∧ V'.cell? ⟨w.heap.size, 1, none⟩ = some (.int .i64 n) ∧ V'.cell? ⟨w.heap.size, 2, none⟩ = some (.int .u64 u) ∧ V'.cell? ⟨w.heap.size, 3, none⟩ = some (.string b) ∧ V'.cell? ⟨bx, 0, none⟩ = some (.func (.func f) #[] #[]))) (by kernel_rfl) ?_ (fun hHr2_0 => ?_)
        · (try dsimp only); (first | assumption | exact hS _ (Bel.refl V).drew | exact hS _ hB4 | exact hS _ (hB4.then_ hb5))
        refine wpAnyH_take (i := 0) (oi := _) (v := ?vr2_1_0) rfl (by kernel_rfl) (by kernel_rfl) (by kernel_rfl) ?hqr2_1_0 (Or.inl ⟨by kernel_rfl, ?hyr2_1_0⟩) (by assumption) ?restr2_1_0
        case hqr2_1_0 => exact fun _ _ _ h => h
        case hyr2_1_0 => (intro w hSw; (try dsimp only at hSw); go_simp; try with_reducible rfl)
        try simp only [Act.put, List.getElem_toArray, List.getElem_cons_succ, List.getElem_cons_zero, List.setIfInBounds_toArray, List.set_cons_zero, List.set_cons_succ]
        refine wpAnyH_take (i := 1) (oi := _) (v := ?vr2_1_1) rfl (by kernel_rfl) (by kernel_rfl) (by kernel_rfl) ?hqr2_1_1 (Or.inl ⟨by kernel_rfl, ?hyr2_1_1⟩) (by assumption) ?restr2_1_1
        case hqr2_1_1 => exact fun _ _ _ h => h
        case hyr2_1_1 => (intro w hSw; (try dsimp only at hSw); go_simp; try with_reducible rfl)
        try simp only [Act.put, List.getElem_toArray, List.getElem_cons_succ, List.getElem_cons_zero, List.setIfInBounds_toArray, List.set_cons_zero, List.set_cons_succ]
        refine wpAnyH_take (i := 2) (oi := _) (v := ?vr2_1_2) rfl (by kernel_rfl) (by kernel_rfl) (by kernel_rfl) ?hqr2_1_2 (Or.inl ⟨by kernel_rfl, ?hyr2_1_2⟩) (by assumption) ?restr2_1_2
        case hqr2_1_2 => exact fun _ _ _ h => h
        case hyr2_1_2 => (intro w hSw; (try dsimp only at hSw); go_simp; try with_reducible rfl)
        try simp only [Act.put, List.getElem_toArray, List.getElem_cons_succ, List.getElem_cons_zero, List.setIfInBounds_toArray, List.set_cons_zero, List.set_cons_succ]
        refine wpAnyH_take (i := 3) (oi := _) (v := ?vr2_1_3) rfl (by kernel_rfl) (by kernel_rfl) (by kernel_rfl) ?hqr2_1_3 (Or.inl ⟨by kernel_rfl, ?hyr2_1_3⟩) (by assumption) ?restr2_1_3
        case hqr2_1_3 => exact fun _ _ _ h => h
        case hyr2_1_3 => (intro w hSw; (try dsimp only at hSw); go_simp; try with_reducible rfl)
        try simp only [Act.put, List.getElem_toArray, List.getElem_cons_succ, List.getElem_cons_zero, List.setIfInBounds_toArray, List.set_cons_zero, List.set_cons_succ]
        refine wpAnyH_take (i := 4) (oi := _) (v := ?vr2_1_4) rfl (by kernel_rfl) (by kernel_rfl) (by kernel_rfl) ?hqr2_1_4 (Or.inl ⟨by kernel_rfl, ?hyr2_1_4⟩) (by assumption) ?restr2_1_4
        case hqr2_1_4 => exact fun _ _ _ h => h
        case hyr2_1_4 => (intro w hSw; (try dsimp only at hSw); go_simp; try with_reducible rfl)
        try simp only [Act.put, List.getElem_toArray, List.getElem_cons_succ, List.getElem_cons_zero, List.setIfInBounds_toArray, List.set_cons_zero, List.set_cons_succ]
        refine wpAnyH_ready (rs := [5]) (by kernel_rfl) (by simp) ?_
        refine AllReadyH.cons (o := _) rfl (fun K hK => ?_) AllReadyH.nil
        go_simp
        (go_at_call 141; refine (HVB.out _).mono ?_; rintro e w4 ⟨rfl, hb4⟩; have hB4 : Bel V w4 := Bel.then_ (Bel.refl V).drew hb4)
        try (go_wp2_with fail)
        refine hK.out _ _ ?_ (fun hHr2_1 => ?_)
        · (try dsimp only); (first | assumption | exact hS _ (Bel.refl V).drew | exact hS _ hB4 | exact hS _ (hB4.then_ hb5))
        clear hK K hHr2_0
        try simp only [Act.put, List.getElem_toArray, List.getElem_cons_succ, List.getElem_cons_zero, List.setIfInBounds_toArray, List.set_cons_zero, List.set_cons_succ]
        refine wpAnyH_take (i := 6) (oi := _) (v := ?vr2_1_6) rfl (by kernel_rfl) (by kernel_rfl) (by kernel_rfl) ?hqr2_1_6 (Or.inl ⟨by kernel_rfl, ?hyr2_1_6⟩) (by assumption) ?restr2_1_6
        case hqr2_1_6 => exact fun _ _ _ h => h
        case hyr2_1_6 => (intro w hSw; (try dsimp only at hSw); go_simp; try with_reducible rfl)
        try simp only [Act.put, List.getElem_toArray, List.getElem_cons_succ, List.getElem_cons_zero, List.setIfInBounds_toArray, List.set_cons_zero, List.set_cons_succ]
        refine wpAnyH_take (i := 7) (oi := _) (v := ?vr2_1_7) rfl (by kernel_rfl) (by kernel_rfl) (by kernel_rfl) ?hqr2_1_7 (Or.inl ⟨by kernel_rfl, ?hyr2_1_7⟩) (by assumption) ?restr2_1_7
        case hqr2_1_7 => exact fun _ _ _ h => h
        case hyr2_1_7 => (intro w hSw; (try dsimp only at hSw); go_simp; try with_reducible rfl)
        try simp only [Act.put, List.getElem_toArray, List.getElem_cons_succ, List.getElem_cons_zero, List.setIfInBounds_toArray, List.set_cons_zero, List.set_cons_succ]
        refine wpAnyH_take (i := 8) (oi := _) (v := ?vr2_1_8) rfl (by kernel_rfl) (by kernel_rfl) (by kernel_rfl) ?hqr2_1_8 (Or.inl ⟨by kernel_rfl, ?hyr2_1_8⟩) (by assumption) ?restr2_1_8
        case hqr2_1_8 => exact fun _ _ _ h => h
        case hyr2_1_8 => (intro w hSw; (try dsimp only at hSw); go_simp; try with_reducible rfl)
        try simp only [Act.put, List.getElem_toArray, List.getElem_cons_succ, List.getElem_cons_zero, List.setIfInBounds_toArray, List.set_cons_zero, List.set_cons_succ]
        refine wpAnyH_take (i := 9) (oi := _) (v := ?vr2_1_9) rfl (by kernel_rfl) (by kernel_rfl) (by kernel_rfl) ?hqr2_1_9 (Or.inl ⟨by kernel_rfl, ?hyr2_1_9⟩) (by assumption) ?restr2_1_9
        case hqr2_1_9 => exact fun _ _ _ h => h
        case hyr2_1_9 => (intro w hSw; (try dsimp only at hSw); go_simp; try with_reducible rfl)
        try simp only [Act.put, List.getElem_toArray, List.getElem_cons_succ, List.getElem_cons_zero, List.setIfInBounds_toArray, List.set_cons_zero, List.set_cons_succ]
        refine wpAnyH_take (i := 10) (oi := _) (v := ?vr2_1_10) rfl (by kernel_rfl) (by kernel_rfl) (by kernel_rfl) ?hqr2_1_10 (Or.inl ⟨by kernel_rfl, ?hyr2_1_10⟩) (by assumption) ?restr2_1_10
        case hqr2_1_10 => exact fun _ _ _ h => h
        case hyr2_1_10 => (intro w hSw; (try dsimp only at hSw); go_simp; try with_reducible rfl)
        try simp only [Act.put, List.getElem_toArray, List.getElem_cons_succ, List.getElem_cons_zero, List.setIfInBounds_toArray, List.set_cons_zero, List.set_cons_succ]
        refine wpAnyH_take (i := 11) (oi := _) (v := ?vr2_1_11) rfl (by kernel_rfl) (by kernel_rfl) (by kernel_rfl) ?hqr2_1_11 (Or.inl ⟨by kernel_rfl, ?hyr2_1_11⟩) (by assumption) ?restr2_1_11
        case hqr2_1_11 => exact fun _ _ _ h => h
        case hyr2_1_11 => (intro w hSw; (try dsimp only at hSw); go_simp; try with_reducible rfl)
        try simp only [Act.put, List.getElem_toArray, List.getElem_cons_succ, List.getElem_cons_zero, List.setIfInBounds_toArray, List.set_cons_zero, List.set_cons_succ]
        refine wpAnyH_ready (rs := [12]) (by kernel_rfl) (by simp) ?_
        refine AllReadyH.cons (o := _) rfl (fun K hK => ?_) AllReadyH.nil
        go_simp
        (go_at_fn f; refine (HSZ.out _).mono ?_; rintro e w5 ⟨rfl, hb5⟩)
        try (go_wp2_with fail)
        refine hK.out _ _ ?_ (fun hHr2_2 => ?_)
        · (try dsimp only); (first | assumption | exact hS _ (Bel.refl V).drew | exact hS _ hB4 | exact hS _ (hB4.then_ hb5))
        clear hK K hHr2_1
        try simp only [Act.put, List.getElem_toArray, List.getElem_cons_succ, List.getElem_cons_zero, List.setIfInBounds_toArray, List.set_cons_zero, List.set_cons_succ]
        refine wpAnyH_take (i := 13) (oi := _) (v := ?vr2_1_13) rfl (by kernel_rfl) (by kernel_rfl) (by kernel_rfl) ?hqr2_1_13 (Or.inl ⟨by kernel_rfl, ?hyr2_1_13⟩) (by assumption) ?restr2_1_13
        case hqr2_1_13 => exact fun _ _ _ h => h
        case hyr2_1_13 => (intro w hSw; (try dsimp only at hSw); go_simp; try with_reducible rfl)
        try simp only [Act.put, List.getElem_toArray, List.getElem_cons_succ, List.getElem_cons_zero, List.setIfInBounds_toArray, List.set_cons_zero, List.set_cons_succ]
        refine wpAnyH_take (i := 14) (oi := _) (v := ?vr2_1_14) rfl (by kernel_rfl) (by kernel_rfl) (by kernel_rfl) ?hqr2_1_14 (Or.inl ⟨by kernel_rfl, ?hyr2_1_14⟩) (by assumption) ?restr2_1_14
        case hqr2_1_14 => exact fun _ _ _ h => h
        case hyr2_1_14 => (intro w hSw; (try dsimp only at hSw); go_simp; try with_reducible rfl)
        try simp only [Act.put, List.getElem_toArray, List.getElem_cons_succ, List.getElem_cons_zero, List.setIfInBounds_toArray, List.set_cons_zero, List.set_cons_succ]
        refine wpAnyH_take (i := 15) (oi := _) (v := ?vr2_1_15) rfl (by kernel_rfl) (by kernel_rfl) (by kernel_rfl) ?hqr2_1_15 (Or.inl ⟨by kernel_rfl, ?hyr2_1_15⟩) (by assumption) ?restr2_1_15
        case hqr2_1_15 => exact fun _ _ _ h => h
        case hyr2_1_15 => (intro w hSw; (try dsimp only at hSw); go_simp; try with_reducible rfl)
        try simp only [Act.put, List.getElem_toArray, List.getElem_cons_succ, List.getElem_cons_zero, List.setIfInBounds_toArray, List.set_cons_zero, List.set_cons_succ]
        refine wpAnyH_done (by kernel_rfl) ?_ _
        refine NoPanic.normal ?_
        have hd3 := hHr2_2.2.2.2.2.1
        have HB5 := Lib.hid (HB.out.then_ hHr2_2.1)
        clear hHr2_2 hS hB4 hb4 hb5 hne
        cases mb
        · go_wp2
          go_ret
          exact ⟨by rw [HR.out]; unfold checkI; rw [← HMB.out]; simp, HB5.out⟩
        · have hR0 : R = if 200 < b.size then 3 else 0 := by
            rw [HR.out]; unfold checkI; rw [← HMB.out]
            have h1 := of_decide_eq_false HNB.out.symm
            have h2 := HT.out
            rw [if_neg (by dsimp only; intro h; rcases h with h | h | h | h <;> first | omega | exact h1 h | cases h)]
          by_cases hl : 200 < b.size
          · rw [if_pos hl] at hR0
            have hlI : (200 : Int) < b.size := by omega
            go_wp2
            go_ret
            exact ⟨by rw [hR0]; rfl, HB5.out⟩
          · rw [if_neg hl] at hR0
            have hlI : decide ((200 : Int) < b.size) = false := by simp; omega
            go_wp2
            go_ret
            exact ⟨by rw [hR0]; rfl, HB5.out⟩
      · refine wp_region_noPanic ?_
        refine wp_region_held_drew (S := (fun V' : World => Bel V V' ∧ V'.cell? ⟨w.heap.size, 0, none⟩ = some (.int .i64 k) ∧ V'.cell? ⟨w.heap.size, 1, none⟩ = some (.int .i64 n) ∧ V'.cell? ⟨w.heap.size, 2, none⟩ = some (.int .u64 u) ∧ V'.cell? ⟨w.heap.size, 3, none⟩ = some (.string b) ∧ V'.cell? ⟨bx, 0, none⟩ = some (.func (.func f) #[] #[]))) (by kernel_rfl) ?_ (fun hHr3_0 => ?_)
        · (try dsimp only); (first | assumption | exact hS _ (Bel.refl V).drew | exact hS _ hB4)
        refine wpAnyH_take (i := 0) (oi := _) (v := ?vr3_1_0) rfl (by kernel_rfl) (by kernel_rfl) (by kernel_rfl) ?hqr3_1_0 (Or.inl ⟨by kernel_rfl, ?hyr3_1_0⟩) (by assumption) ?restr3_1_0
        case hqr3_1_0 => exact fun _ _ _ h => h
        case hyr3_1_0 => (intro w hSw; (try dsimp only at hSw); go_simp; try with_reducible rfl)
        try simp only [Act.put, List.getElem_toArray, List.getElem_cons_succ, List.getElem_cons_zero, List.setIfInBounds_toArray, List.set_cons_zero, List.set_cons_succ]
        refine wpAnyH_take (i := 1) (oi := _) (v := ?vr3_1_1) rfl (by kernel_rfl) (by kernel_rfl) (by kernel_rfl) ?hqr3_1_1 (Or.inl ⟨by kernel_rfl, ?hyr3_1_1⟩) (by assumption) ?restr3_1_1
        case hqr3_1_1 => exact fun _ _ _ h => h
        case hyr3_1_1 => (intro w hSw; (try dsimp only at hSw); go_simp; try with_reducible rfl)
        try simp only [Act.put, List.getElem_toArray, List.getElem_cons_succ, List.getElem_cons_zero, List.setIfInBounds_toArray, List.set_cons_zero, List.set_cons_succ]
        refine wpAnyH_take (i := 2) (oi := _) (v := ?vr3_1_2) rfl (by kernel_rfl) (by kernel_rfl) (by kernel_rfl) ?hqr3_1_2 (Or.inl ⟨by kernel_rfl, ?hyr3_1_2⟩) (by assumption) ?restr3_1_2
        case hqr3_1_2 => exact fun _ _ _ h => h
        case hyr3_1_2 => (intro w hSw; (try dsimp only at hSw); go_simp; try with_reducible rfl)
        try simp only [Act.put, List.getElem_toArray, List.getElem_cons_succ, List.getElem_cons_zero, List.setIfInBounds_toArray, List.set_cons_zero, List.set_cons_succ]
        refine wpAnyH_take (i := 3) (oi := _) (v := ?vr3_1_3) rfl (by kernel_rfl) (by kernel_rfl) (by kernel_rfl) ?hqr3_1_3 (Or.inl ⟨by kernel_rfl, ?hyr3_1_3⟩) (by assumption) ?restr3_1_3
        case hqr3_1_3 => exact fun _ _ _ h => h
        case hyr3_1_3 => (intro w hSw; (try dsimp only at hSw); go_simp; try with_reducible rfl)
        try simp only [Act.put, List.getElem_toArray, List.getElem_cons_succ, List.getElem_cons_zero, List.setIfInBounds_toArray, List.set_cons_zero, List.set_cons_succ]
        refine wpAnyH_take (i := 4) (oi := _) (v := ?vr3_1_4) rfl (by kernel_rfl) (by kernel_rfl) (by kernel_rfl) ?hqr3_1_4 (Or.inl ⟨by kernel_rfl, ?hyr3_1_4⟩) (by assumption) ?restr3_1_4
        case hqr3_1_4 => exact fun _ _ _ h => h
        case hyr3_1_4 => (intro w hSw; (try dsimp only at hSw); go_simp; try with_reducible rfl)
        try simp only [Act.put, List.getElem_toArray, List.getElem_cons_succ, List.getElem_cons_zero, List.setIfInBounds_toArray, List.set_cons_zero, List.set_cons_succ]
        refine wpAnyH_ready (rs := [5]) (by kernel_rfl) (by simp) ?_
        refine AllReadyH.cons (o := _) rfl (fun K hK => ?_) AllReadyH.nil
        go_simp
        (go_at_call 141; refine (HVB.out _).mono ?_; rintro e w4 ⟨rfl, hb4⟩; have hB4 : Bel V w4 := Bel.then_ (Bel.refl V).drew hb4)
        try (go_wp2_with fail)
        refine hK.out _ _ ?_ (fun hHr3_1 => ?_)
        · (try dsimp only); (first | assumption | exact hS _ (Bel.refl V).drew | exact hS _ hB4)
        clear hK K hHr3_0
        try simp only [Act.put, List.getElem_toArray, List.getElem_cons_succ, List.getElem_cons_zero, List.setIfInBounds_toArray, List.set_cons_zero, List.set_cons_succ]
        refine wpAnyH_take (i := 6) (oi := _) (v := ?vr3_1_6) rfl (by kernel_rfl) (by kernel_rfl) (by kernel_rfl) ?hqr3_1_6 (Or.inl ⟨by kernel_rfl, ?hyr3_1_6⟩) (by assumption) ?restr3_1_6
        case hqr3_1_6 => exact fun _ _ _ h => h
        case hyr3_1_6 => (intro w hSw; (try dsimp only at hSw); go_simp; try with_reducible rfl)
        try simp only [Act.put, List.getElem_toArray, List.getElem_cons_succ, List.getElem_cons_zero, List.setIfInBounds_toArray, List.set_cons_zero, List.set_cons_succ]
        refine wpAnyH_take (i := 7) (oi := _) (v := ?vr3_1_7) rfl (by kernel_rfl) (by kernel_rfl) (by kernel_rfl) ?hqr3_1_7 (Or.inl ⟨by kernel_rfl, ?hyr3_1_7⟩) (by assumption) ?restr3_1_7
        case hqr3_1_7 => exact fun _ _ _ h => h
        case hyr3_1_7 => (intro w hSw; (try dsimp only at hSw); go_simp; try with_reducible rfl)
        try simp only [Act.put, List.getElem_toArray, List.getElem_cons_succ, List.getElem_cons_zero, List.setIfInBounds_toArray, List.set_cons_zero, List.set_cons_succ]
        refine wpAnyH_take (i := 8) (oi := _) (v := ?vr3_1_8) rfl (by kernel_rfl) (by kernel_rfl) (by kernel_rfl) ?hqr3_1_8 (Or.inl ⟨by kernel_rfl, ?hyr3_1_8⟩) (by assumption) ?restr3_1_8
        case hqr3_1_8 => exact fun _ _ _ h => h
        case hyr3_1_8 => (intro w hSw; (try dsimp only at hSw); go_simp; try with_reducible rfl)
        try simp only [Act.put, List.getElem_toArray, List.getElem_cons_succ, List.getElem_cons_zero, List.setIfInBounds_toArray, List.set_cons_zero, List.set_cons_succ]
        refine wpAnyH_take (i := 9) (oi := _) (v := undef) rfl (by kernel_rfl) (by kernel_rfl) (by kernel_rfl) (fun _ _ _ h => h) (Or.inr ⟨by kernel_rfl, rfl⟩) (by assumption) ?restr3_1_9
        try simp only [Act.put, List.getElem_toArray, List.getElem_cons_succ, List.getElem_cons_zero, List.setIfInBounds_toArray, List.set_cons_zero, List.set_cons_succ]
        refine wpAnyH_take (i := 10) (oi := _) (v := undef) rfl (by kernel_rfl) (by kernel_rfl) (by kernel_rfl) (fun _ _ _ h => h) (Or.inr ⟨by kernel_rfl, rfl⟩) (by assumption) ?restr3_1_10
        try simp only [Act.put, List.getElem_toArray, List.getElem_cons_succ, List.getElem_cons_zero, List.setIfInBounds_toArray, List.set_cons_zero, List.set_cons_succ]
        refine wpAnyH_take (i := 11) (oi := _) (v := undef) rfl (by kernel_rfl) (by kernel_rfl) (by kernel_rfl) (fun _ _ _ h => h) (Or.inr ⟨by kernel_rfl, rfl⟩) (by assumption) ?restr3_1_11
        try simp only [Act.put, List.getElem_toArray, List.getElem_cons_succ, List.getElem_cons_zero, List.setIfInBounds_toArray, List.set_cons_zero, List.set_cons_succ]
        refine wpAnyH_take (i := 12) (oi := _) (v := undef) rfl (by kernel_rfl) (by kernel_rfl) (by kernel_rfl) (fun _ _ _ h => h) (Or.inr ⟨by kernel_rfl, rfl⟩) (by assumption) ?restr3_1_12
        try simp only [Act.put, List.getElem_toArray, List.getElem_cons_succ, List.getElem_cons_zero, List.setIfInBounds_toArray, List.set_cons_zero, List.set_cons_succ]
        refine wpAnyH_take (i := 13) (oi := _) (v := undef) rfl (by kernel_rfl) (by kernel_rfl) (by kernel_rfl) (fun _ _ _ h => h) (Or.inr ⟨by kernel_rfl, rfl⟩) (by assumption) ?restr3_1_13
        try simp only [Act.put, List.getElem_toArray, List.getElem_cons_succ, List.getElem_cons_zero, List.setIfInBounds_toArray, List.set_cons_zero, List.set_cons_succ]
        refine wpAnyH_take (i := 14) (oi := _) (v := ?vr3_1_14) rfl (by kernel_rfl) (by kernel_rfl) (by kernel_rfl) ?hqr3_1_14 (Or.inl ⟨by kernel_rfl, ?hyr3_1_14⟩) (by assumption) ?restr3_1_14
        case hqr3_1_14 => exact fun _ _ _ h => h
        case hyr3_1_14 => (intro w hSw; (try dsimp only at hSw); go_simp; try with_reducible rfl)
        try simp only [Act.put, List.getElem_toArray, List.getElem_cons_succ, List.getElem_cons_zero, List.setIfInBounds_toArray, List.set_cons_zero, List.set_cons_succ]
        refine wpAnyH_take (i := 15) (oi := _) (v := ?vr3_1_15) rfl (by kernel_rfl) (by kernel_rfl) (by kernel_rfl) ?hqr3_1_15 (Or.inl ⟨by kernel_rfl, ?hyr3_1_15⟩) (by assumption) ?restr3_1_15
        case hqr3_1_15 => exact fun _ _ _ h => h
        case hyr3_1_15 => (intro w hSw; (try dsimp only at hSw); go_simp; try with_reducible rfl)
        try simp only [Act.put, List.getElem_toArray, List.getElem_cons_succ, List.getElem_cons_zero, List.setIfInBounds_toArray, List.set_cons_zero, List.set_cons_succ]
        refine wpAnyH_done (by kernel_rfl) ?_ _
        refine NoPanic.normal ?_
        have HB5 := Lib.hid (HB.out.then_ hHr3_1.1)
        clear hHr3_1 hS hB4 hb4 hne
        go_wp2
        go_ret
        exact ⟨by rw [HR.out]; unfold checkI; rw [if_pos (.inr (.inr (.inl (of_decide_eq_true HNB.out.symm))))]; rfl, HB5.out⟩
  · have HLO := Lib.hid (fun (b : Nat) (V : World) (hb : V.heap[b]? = some (.map vkMap 5)) => vkLookNo ht hb)
    have HRF : Hid (R = 2) := by show R = 2; rw [HR.out]; unfold checkI; dsimp only; rw [if_pos (by omega)]
    clear ht
    go_enter Tryz.func97, Tryz.ntmps97
    go_wp2
    obtain ⟨w1, hw1⟩ : ∃ w1, w1 = w.alloc (.cells #[.int .i64 k, .int .i64 n, .int .u64 u, .string b] 48) := ⟨_, rfl⟩
    rw [← hw1]
    have hb1 : Bel w w1 := by rw [hw1]; exact (Bel.refl w).alloc _
    have hc0 : w1.cell? ⟨w.heap.size, 0, none⟩ = some (.int .i64 k) := by rw [hw1]; go_simp
    have hc1 : w1.cell? ⟨w.heap.size, 1, none⟩ = some (.int .i64 n) := by rw [hw1]; go_simp
    have hc2 : w1.cell? ⟨w.heap.size, 2, none⟩ = some (.int .u64 u) := by rw [hw1]; go_simp
    have hc3 : w1.cell? ⟨w.heap.size, 3, none⟩ = some (.string b) := by rw [hw1]; go_simp
    clear hw1
    have hS : ∀ V, Bel w1 V → (Bel w1 V ∧ V.cell? ⟨w.heap.size, 0, none⟩ = some (.int .i64 k)) := fun V h => ⟨h, h.c hc0⟩
    apply wp_cut2 (R := fun bm bx V => Bel w1 V ∧ True)
    case h =>
      refine wp_region_noPanic ?_
      refine wp_region_held_drew (S := (fun V : World => Bel w1 V ∧ V.cell? ⟨w.heap.size, 0, none⟩ = some (.int .i64 k))) (by kernel_rfl) ?_ (fun hHr4_0 => ?_)
      · (try dsimp only); (first | assumption | exact hS _ (Bel.refl w1).drew | exact hS _ hB2 | exact hS _ (Bel.alloc hB2 _) | exact hS _ (Bel.alloc (Bel.refl w1).drew _) | exact hS _ (Bel.setCell (Bel.setCell hB2 (Nat.le_refl _) _) (Nat.le_refl _) _))
      refine wpAnyH_take (i := 1) (oi := _) (v := ?vr4_1_1) rfl (by kernel_rfl) (by kernel_rfl) (by kernel_rfl) ?hqr4_1_1 (Or.inl ⟨by kernel_rfl, ?hyr4_1_1⟩) (by assumption) ?restr4_1_1
      case hqr4_1_1 => exact fun _ _ _ h => h
      case hyr4_1_1 => (intro w hSw; (try dsimp only at hSw); go_simp; try with_reducible rfl)
      try simp only [Act.put, List.getElem_toArray, List.getElem_cons_succ, List.getElem_cons_zero, List.setIfInBounds_toArray, List.set_cons_zero, List.set_cons_succ]
      refine wpAnyH_take (i := 2) (oi := _) (v := ?vr4_1_2) rfl (by kernel_rfl) (by kernel_rfl) (by kernel_rfl) ?hqr4_1_2 (Or.inl ⟨by kernel_rfl, ?hyr4_1_2⟩) (by assumption) ?restr4_1_2
      case hqr4_1_2 => exact fun _ _ _ h => h
      case hyr4_1_2 => (intro w hSw; (try dsimp only at hSw); go_simp; try with_reducible rfl)
      try simp only [Act.put, List.getElem_toArray, List.getElem_cons_succ, List.getElem_cons_zero, List.setIfInBounds_toArray, List.set_cons_zero, List.set_cons_succ]
      refine wpAnyH_ready (rs := [0, 7]) (by kernel_rfl) (by simp) ?_
      refine AllReadyH.cons (o := _) rfl (fun K hK => ?_) (AllReadyH.cons (o := _) rfl (fun K hK => ?_) (AllReadyH.nil))
      · go_simp
        (go_at_call 140; refine (vkinds_any _).mono ?_; rintro e w2 ⟨bm, rfl, hm, hb2⟩; have hB2 : Bel w1 w2 := Bel.then_ (Bel.refl w1).drew hb2)
        try (go_wp2_with fail)
        refine hK.out _ _ ?_ (fun hHr4_1 => ?_)
        · (try dsimp only); (first | assumption | exact hS _ (Bel.refl w1).drew | exact hS _ hB2 | exact hS _ (Bel.alloc hB2 _) | exact hS _ (Bel.alloc (Bel.refl w1).drew _) | exact hS _ (Bel.setCell (Bel.setCell hB2 (Nat.le_refl _) _) (Nat.le_refl _) _))
        clear hK K hHr4_0
        try simp only [Act.put, List.getElem_toArray, List.getElem_cons_succ, List.getElem_cons_zero, List.setIfInBounds_toArray, List.set_cons_zero, List.set_cons_succ]
        refine wpAnyH_ready (rs := [3, 7]) (by kernel_rfl) (by simp) ?_
        refine AllReadyH.cons (o := _) rfl (fun K hK => ?_) (AllReadyH.cons (o := _) rfl (fun K hK => ?_) (AllReadyH.nil))
        · go_simp
          ((have hlk := HLO.out bm _ hm); go_simp)
          refine hK.out _ _ ?_ (fun hHr4_2 => ?_)
          · (try dsimp only); (first | assumption | exact hS _ (Bel.refl w1).drew | exact hS _ hB2 | exact hS _ (Bel.alloc hB2 _) | exact hS _ (Bel.alloc (Bel.refl w1).drew _) | exact hS _ (Bel.setCell (Bel.setCell hB2 (Nat.le_refl _) _) (Nat.le_refl _) _))
          clear hK K hHr4_1
          try simp only [Act.put, List.getElem_toArray, List.getElem_cons_succ, List.getElem_cons_zero, List.setIfInBounds_toArray, List.set_cons_zero, List.set_cons_succ]
          refine wpAnyH_take (i := 4) (oi := _) (v := ?vr4_3_4) rfl (by kernel_rfl) (by kernel_rfl) (by kernel_rfl) ?hqr4_3_4 (Or.inl ⟨by kernel_rfl, ?hyr4_3_4⟩) (by assumption) ?restr4_3_4
          case hqr4_3_4 => exact fun _ _ _ h => h
          case hyr4_3_4 => (intro w hSw; (try dsimp only at hSw); go_simp; try with_reducible rfl)
          try simp only [Act.put, List.getElem_toArray, List.getElem_cons_succ, List.getElem_cons_zero, List.setIfInBounds_toArray, List.set_cons_zero, List.set_cons_succ]
          refine wpAnyH_take (i := 5) (oi := _) (v := ?vr4_3_5) rfl (by kernel_rfl) (by kernel_rfl) (by kernel_rfl) ?hqr4_3_5 (Or.inl ⟨by kernel_rfl, ?hyr4_3_5⟩) (by assumption) ?restr4_3_5
          case hqr4_3_5 => exact fun _ _ _ h => h
          case hyr4_3_5 => (intro w hSw; (try dsimp only at hSw); go_simp; try with_reducible rfl)
          try simp only [Act.put, List.getElem_toArray, List.getElem_cons_succ, List.getElem_cons_zero, List.setIfInBounds_toArray, List.set_cons_zero, List.set_cons_succ]
          refine wpAnyH_take (i := 6) (oi := _) (v := ?vr4_3_6) rfl (by kernel_rfl) (by kernel_rfl) (by kernel_rfl) ?hqr4_3_6 (Or.inl ⟨by kernel_rfl, ?hyr4_3_6⟩) (by assumption) ?restr4_3_6
          case hqr4_3_6 => exact fun _ _ _ h => h
          case hyr4_3_6 => (intro w hSw; (try dsimp only at hSw); go_simp; try with_reducible rfl)
          try simp only [Act.put, List.getElem_toArray, List.getElem_cons_succ, List.getElem_cons_zero, List.setIfInBounds_toArray, List.set_cons_zero, List.set_cons_succ]
          refine wpAnyH_ready (rs := [7]) (by kernel_rfl) (by simp) ?_
          refine AllReadyH.cons (o := _) rfl (fun K hK => ?_) AllReadyH.nil
          go_simp
          refine hK.out _ _ ?_ (fun hHr4_3 => ?_)
          · (try dsimp only); (first | assumption | exact hS _ (Bel.refl w1).drew | exact hS _ hB2 | exact hS _ (Bel.alloc hB2 _) | exact hS _ (Bel.alloc (Bel.refl w1).drew _) | exact hS _ (Bel.setCell (Bel.setCell hB2 (Nat.le_refl _) _) (Nat.le_refl _) _))
          clear hK K hHr4_2
          try simp only [Act.put, List.getElem_toArray, List.getElem_cons_succ, List.getElem_cons_zero, List.setIfInBounds_toArray, List.set_cons_zero, List.set_cons_succ]
          refine wpAnyH_ready (rs := [8]) (by kernel_rfl) (by simp) ?_
          refine AllReadyH.cons (o := _) rfl (fun K hK => ?_) AllReadyH.nil
          go_simp
          refine hK.out _ _ ?_ (fun hHr4_4 => ?_)
          · (try dsimp only); (first | assumption | exact hS _ (Bel.refl w1).drew | exact hS _ hB2 | exact hS _ (Bel.alloc hB2 _) | exact hS _ (Bel.alloc (Bel.refl w1).drew _) | exact hS _ (Bel.setCell (Bel.setCell hB2 (Nat.le_refl _) _) (Nat.le_refl _) _))
          clear hK K hHr4_3
          try simp only [Act.put, List.getElem_toArray, List.getElem_cons_succ, List.getElem_cons_zero, List.setIfInBounds_toArray, List.set_cons_zero, List.set_cons_succ]
          refine wpAnyH_take (i := 9) (oi := _) (v := ?vr4_3_9) rfl (by kernel_rfl) (by kernel_rfl) (by kernel_rfl) ?hqr4_3_9 (Or.inl ⟨by kernel_rfl, ?hyr4_3_9⟩) (by assumption) ?restr4_3_9
          case hqr4_3_9 => exact fun _ _ _ h => h
          case hyr4_3_9 => (intro w hSw; (try dsimp only at hSw); go_simp; try with_reducible rfl)
          try simp only [Act.put, List.getElem_toArray, List.getElem_cons_succ, List.getElem_cons_zero, List.setIfInBounds_toArray, List.set_cons_zero, List.set_cons_succ]
          refine wpAnyH_done (by kernel_rfl) ?_ _
          refine NoPanic.normal ?_
          (refine ⟨bm, w2.heap.size, rfl, ?_, hHr4_4.1, trivial⟩; generalize w2.heap.size = bx; exact rfl)
        · go_simp
          refine hK.out _ _ ?_ (fun hHr4_2 => ?_)
          · (try dsimp only); (first | assumption | exact hS _ (Bel.refl w1).drew | exact hS _ hB2 | exact hS _ (Bel.alloc hB2 _) | exact hS _ (Bel.alloc (Bel.refl w1).drew _) | exact hS _ (Bel.setCell (Bel.setCell hB2 (Nat.le_refl _) _) (Nat.le_refl _) _))
          clear hK K hHr4_1
          try simp only [Act.put, List.getElem_toArray, List.getElem_cons_succ, List.getElem_cons_zero, List.setIfInBounds_toArray, List.set_cons_zero, List.set_cons_succ]
          refine wpAnyH_ready (rs := [3]) (by kernel_rfl) (by simp) ?_
          refine AllReadyH.cons (o := _) rfl (fun K hK => ?_) AllReadyH.nil
          go_simp
          ((have hlk := HLO.out bm _ (((Bel.refl w2).alloc (.cells #[.nilFunc, .nilFunc] 204)).deferred hm)); go_simp)
          refine hK.out _ _ ?_ (fun hHr4_3 => ?_)
          · (try dsimp only); (first | assumption | exact hS _ (Bel.refl w1).drew | exact hS _ hB2 | exact hS _ (Bel.alloc hB2 _) | exact hS _ (Bel.alloc (Bel.refl w1).drew _) | exact hS _ (Bel.setCell (Bel.setCell hB2 (Nat.le_refl _) _) (Nat.le_refl _) _))
          clear hK K hHr4_2
          try simp only [Act.put, List.getElem_toArray, List.getElem_cons_succ, List.getElem_cons_zero, List.setIfInBounds_toArray, List.set_cons_zero, List.set_cons_succ]
          refine wpAnyH_take (i := 4) (oi := _) (v := ?vr4_4_4) rfl (by kernel_rfl) (by kernel_rfl) (by kernel_rfl) ?hqr4_4_4 (Or.inl ⟨by kernel_rfl, ?hyr4_4_4⟩) (by assumption) ?restr4_4_4
          case hqr4_4_4 => exact fun _ _ _ h => h
          case hyr4_4_4 => (intro w hSw; (try dsimp only at hSw); go_simp; try with_reducible rfl)
          try simp only [Act.put, List.getElem_toArray, List.getElem_cons_succ, List.getElem_cons_zero, List.setIfInBounds_toArray, List.set_cons_zero, List.set_cons_succ]
          refine wpAnyH_take (i := 5) (oi := _) (v := ?vr4_4_5) rfl (by kernel_rfl) (by kernel_rfl) (by kernel_rfl) ?hqr4_4_5 (Or.inl ⟨by kernel_rfl, ?hyr4_4_5⟩) (by assumption) ?restr4_4_5
          case hqr4_4_5 => exact fun _ _ _ h => h
          case hyr4_4_5 => (intro w hSw; (try dsimp only at hSw); go_simp; try with_reducible rfl)
          try simp only [Act.put, List.getElem_toArray, List.getElem_cons_succ, List.getElem_cons_zero, List.setIfInBounds_toArray, List.set_cons_zero, List.set_cons_succ]
          refine wpAnyH_take (i := 6) (oi := _) (v := ?vr4_4_6) rfl (by kernel_rfl) (by kernel_rfl) (by kernel_rfl) ?hqr4_4_6 (Or.inl ⟨by kernel_rfl, ?hyr4_4_6⟩) (by assumption) ?restr4_4_6
          case hqr4_4_6 => exact fun _ _ _ h => h
          case hyr4_4_6 => (intro w hSw; (try dsimp only at hSw); go_simp; try with_reducible rfl)
          try simp only [Act.put, List.getElem_toArray, List.getElem_cons_succ, List.getElem_cons_zero, List.setIfInBounds_toArray, List.set_cons_zero, List.set_cons_succ]
          refine wpAnyH_ready (rs := [8]) (by kernel_rfl) (by simp) ?_
          refine AllReadyH.cons (o := _) rfl (fun K hK => ?_) AllReadyH.nil
          go_simp
          refine hK.out _ _ ?_ (fun hHr4_4 => ?_)
          · (try dsimp only); (first | assumption | exact hS _ (Bel.refl w1).drew | exact hS _ hB2 | exact hS _ (Bel.alloc hB2 _) | exact hS _ (Bel.alloc (Bel.refl w1).drew _) | exact hS _ (Bel.setCell (Bel.setCell hB2 (Nat.le_refl _) _) (Nat.le_refl _) _))
          clear hK K hHr4_3
          try simp only [Act.put, List.getElem_toArray, List.getElem_cons_succ, List.getElem_cons_zero, List.setIfInBounds_toArray, List.set_cons_zero, List.set_cons_succ]
          refine wpAnyH_take (i := 9) (oi := _) (v := ?vr4_4_9) rfl (by kernel_rfl) (by kernel_rfl) (by kernel_rfl) ?hqr4_4_9 (Or.inl ⟨by kernel_rfl, ?hyr4_4_9⟩) (by assumption) ?restr4_4_9
          case hqr4_4_9 => exact fun _ _ _ h => h
          case hyr4_4_9 => (intro w hSw; (try dsimp only at hSw); go_simp; try with_reducible rfl)
          try simp only [Act.put, List.getElem_toArray, List.getElem_cons_succ, List.getElem_cons_zero, List.setIfInBounds_toArray, List.set_cons_zero, List.set_cons_succ]
          refine wpAnyH_done (by kernel_rfl) ?_ _
          refine NoPanic.normal ?_
          (refine ⟨bm, w2.heap.size, rfl, ?_, hHr4_4.1, trivial⟩; generalize w2.heap.size = bx; exact rfl)
      · go_simp
        refine hK.out _ _ ?_ (fun hHr4_1 => ?_)
        · (try dsimp only); (first | assumption | exact hS _ (Bel.refl w1).drew | exact hS _ hB2 | exact hS _ (Bel.alloc hB2 _) | exact hS _ (Bel.alloc (Bel.refl w1).drew _) | exact hS _ (Bel.setCell (Bel.setCell hB2 (Nat.le_refl _) _) (Nat.le_refl _) _))
        clear hK K hHr4_0
        try simp only [Act.put, List.getElem_toArray, List.getElem_cons_succ, List.getElem_cons_zero, List.setIfInBounds_toArray, List.set_cons_zero, List.set_cons_succ]
        refine wpAnyH_ready (rs := [0]) (by kernel_rfl) (by simp) ?_
        refine AllReadyH.cons (o := _) rfl (fun K hK => ?_) AllReadyH.nil
        go_simp
        (go_at_call 140; refine (vkinds_any _).mono ?_; rintro e w2 ⟨bm, rfl, hm, hb2⟩; have hB2 : Bel w1 w2 := Bel.then_ (Bel.alloc (Bel.refl w1).drew _) hb2; have z0 : w2.cell? ⟨w1.heap.size, 0, none⟩ = some .nilFunc := hb2.c (by go_simp); have z1 : w2.cell? ⟨w1.heap.size, 1, none⟩ = some .nilFunc := hb2.c (by go_simp); have y0 : w2.frozen? ⟨w1.heap.size, 0, none⟩ = false := (Below.frozen hb2 (by simp)).trans (by go_simp); have y1 : w2.frozen? ⟨w1.heap.size, 1, none⟩ = false := (Below.frozen hb2 (by simp)).trans (by go_simp))
        try (go_wp2_with fail)
        refine hK.out _ _ ?_ (fun hHr4_2 => ?_)
        · (try dsimp only); (first | assumption | exact hS _ (Bel.refl w1).drew | exact hS _ hB2 | exact hS _ (Bel.alloc hB2 _) | exact hS _ (Bel.alloc (Bel.refl w1).drew _) | exact hS _ (Bel.setCell (Bel.setCell hB2 (Nat.le_refl _) _) (Nat.le_refl _) _))
        clear hK K hHr4_1
        try simp only [Act.put, List.getElem_toArray, List.getElem_cons_succ, List.getElem_cons_zero, List.setIfInBounds_toArray, List.set_cons_zero, List.set_cons_succ]
        refine wpAnyH_ready (rs := [3]) (by kernel_rfl) (by simp) ?_
        refine AllReadyH.cons (o := _) rfl (fun K hK => ?_) AllReadyH.nil
        go_simp
        ((have hlk := HLO.out bm _ hm); go_simp)
        refine hK.out _ _ ?_ (fun hHr4_3 => ?_)
        · (try dsimp only); (first | assumption | exact hS _ (Bel.refl w1).drew | exact hS _ hB2 | exact hS _ (Bel.alloc hB2 _) | exact hS _ (Bel.alloc (Bel.refl w1).drew _) | exact hS _ (Bel.setCell (Bel.setCell hB2 (Nat.le_refl _) _) (Nat.le_refl _) _))
        clear hK K hHr4_2
        try simp only [Act.put, List.getElem_toArray, List.getElem_cons_succ, List.getElem_cons_zero, List.setIfInBounds_toArray, List.set_cons_zero, List.set_cons_succ]
        refine wpAnyH_take (i := 4) (oi := _) (v := ?vr4_5_4) rfl (by kernel_rfl) (by kernel_rfl) (by kernel_rfl) ?hqr4_5_4 (Or.inl ⟨by kernel_rfl, ?hyr4_5_4⟩) (by assumption) ?restr4_5_4
        case hqr4_5_4 => exact fun _ _ _ h => h
        case hyr4_5_4 => (intro w hSw; (try dsimp only at hSw); go_simp; try with_reducible rfl)
        try simp only [Act.put, List.getElem_toArray, List.getElem_cons_succ, List.getElem_cons_zero, List.setIfInBounds_toArray, List.set_cons_zero, List.set_cons_succ]
        refine wpAnyH_take (i := 5) (oi := _) (v := ?vr4_5_5) rfl (by kernel_rfl) (by kernel_rfl) (by kernel_rfl) ?hqr4_5_5 (Or.inl ⟨by kernel_rfl, ?hyr4_5_5⟩) (by assumption) ?restr4_5_5
        case hqr4_5_5 => exact fun _ _ _ h => h
        case hyr4_5_5 => (intro w hSw; (try dsimp only at hSw); go_simp; try with_reducible rfl)
        try simp only [Act.put, List.getElem_toArray, List.getElem_cons_succ, List.getElem_cons_zero, List.setIfInBounds_toArray, List.set_cons_zero, List.set_cons_succ]
        refine wpAnyH_take (i := 6) (oi := _) (v := ?vr4_5_6) rfl (by kernel_rfl) (by kernel_rfl) (by kernel_rfl) ?hqr4_5_6 (Or.inl ⟨by kernel_rfl, ?hyr4_5_6⟩) (by assumption) ?restr4_5_6
        case hqr4_5_6 => exact fun _ _ _ h => h
        case hyr4_5_6 => (intro w hSw; (try dsimp only at hSw); go_simp; try with_reducible rfl)
        try simp only [Act.put, List.getElem_toArray, List.getElem_cons_succ, List.getElem_cons_zero, List.setIfInBounds_toArray, List.set_cons_zero, List.set_cons_succ]
        refine wpAnyH_ready (rs := [8]) (by kernel_rfl) (by simp) ?_
        refine AllReadyH.cons (o := _) rfl (fun K hK => ?_) AllReadyH.nil
        go_simp
        refine hK.out _ _ ?_ (fun hHr4_4 => ?_)
        · (try dsimp only); (first | assumption | exact hS _ (Bel.refl w1).drew | exact hS _ hB2 | exact hS _ (Bel.alloc hB2 _) | exact hS _ (Bel.alloc (Bel.refl w1).drew _) | exact hS _ (Bel.setCell (Bel.setCell hB2 (Nat.le_refl _) _) (Nat.le_refl _) _))
        clear hK K hHr4_3
        try simp only [Act.put, List.getElem_toArray, List.getElem_cons_succ, List.getElem_cons_zero, List.setIfInBounds_toArray, List.set_cons_zero, List.set_cons_succ]
        refine wpAnyH_take (i := 9) (oi := _) (v := ?vr4_5_9) rfl (by kernel_rfl) (by kernel_rfl) (by kernel_rfl) ?hqr4_5_9 (Or.inl ⟨by kernel_rfl, ?hyr4_5_9⟩) (by assumption) ?restr4_5_9
        case hqr4_5_9 => exact fun _ _ _ h => h
        case hyr4_5_9 => (intro w hSw; (try dsimp only at hSw); go_simp; try with_reducible rfl)
        try simp only [Act.put, List.getElem_toArray, List.getElem_cons_succ, List.getElem_cons_zero, List.setIfInBounds_toArray, List.set_cons_zero, List.set_cons_succ]
        refine wpAnyH_done (by kernel_rfl) ?_ _
        refine NoPanic.normal ?_
        (refine ⟨bm, w1.heap.size, rfl, ?_, hHr4_4.1, trivial⟩; generalize w1.heap.size = bx; exact rfl)
    case k =>
      rintro bm bx V ⟨hb, -⟩
      have HB := Lib.hid (hb1.then_ hb)
      have hd0 := hb.c hc0
      clear hS hb1 hb hc0 hc1 hc2 hc3
      go_wp2
      have hS : ∀ V', Bel V V' → Bel V V' := fun V' h => h
      refine wp_region_noPanic ?_
      refine wp_region_held_drew (S := (fun V' : World => Bel V V')) (by kernel_rfl) ?_ (fun hHr5_0 => ?_)
      · (try dsimp only); (first | assumption | exact hS _ (Bel.refl V).drew)
      refine wpAnyH_take (i := 0) (oi := _) (v := ?vr5_1_0) rfl (by kernel_rfl) (by kernel_rfl) (by kernel_rfl) ?hqr5_1_0 (Or.inl ⟨by kernel_rfl, ?hyr5_1_0⟩) (by assumption) ?restr5_1_0
      case hqr5_1_0 => exact fun _ _ _ h => h
      case hyr5_1_0 => (intro w hSw; (try dsimp only at hSw); go_simp; try with_reducible rfl)
      try simp only [Act.put, List.getElem_toArray, List.getElem_cons_succ, List.getElem_cons_zero, List.setIfInBounds_toArray, List.set_cons_zero, List.set_cons_succ]
      refine wpAnyH_take (i := 1) (oi := _) (v := ?vr5_1_1) rfl (by kernel_rfl) (by kernel_rfl) (by kernel_rfl) ?hqr5_1_1 (Or.inl ⟨by kernel_rfl, ?hyr5_1_1⟩) (by assumption) ?restr5_1_1
      case hqr5_1_1 => exact fun _ _ _ h => h
      case hyr5_1_1 => (intro w hSw; (try dsimp only at hSw); go_simp; try with_reducible rfl)
      try simp only [Act.put, List.getElem_toArray, List.getElem_cons_succ, List.getElem_cons_zero, List.setIfInBounds_toArray, List.set_cons_zero, List.set_cons_succ]
      refine wpAnyH_take (i := 2) (oi := _) (v := ?vr5_1_2) rfl (by kernel_rfl) (by kernel_rfl) (by kernel_rfl) ?hqr5_1_2 (Or.inl ⟨by kernel_rfl, ?hyr5_1_2⟩) (by assumption) ?restr5_1_2
      case hqr5_1_2 => exact fun _ _ _ h => h
      case hyr5_1_2 => (intro w hSw; (try dsimp only at hSw); go_simp; try with_reducible rfl)
      try simp only [Act.put, List.getElem_toArray, List.getElem_cons_succ, List.getElem_cons_zero, List.setIfInBounds_toArray, List.set_cons_zero, List.set_cons_succ]
      refine wpAnyH_take (i := 3) (oi := _) (v := undef) rfl (by kernel_rfl) (by kernel_rfl) (by kernel_rfl) (fun _ _ _ h => h) (Or.inr ⟨by kernel_rfl, rfl⟩) (by assumption) ?restr5_1_3
      try simp only [Act.put, List.getElem_toArray, List.getElem_cons_succ, List.getElem_cons_zero, List.setIfInBounds_toArray, List.set_cons_zero, List.set_cons_succ]
      refine wpAnyH_take (i := 4) (oi := _) (v := undef) rfl (by kernel_rfl) (by kernel_rfl) (by kernel_rfl) (fun _ _ _ h => h) (Or.inr ⟨by kernel_rfl, rfl⟩) (by assumption) ?restr5_1_4
      try simp only [Act.put, List.getElem_toArray, List.getElem_cons_succ, List.getElem_cons_zero, List.setIfInBounds_toArray, List.set_cons_zero, List.set_cons_succ]
      refine wpAnyH_take (i := 5) (oi := _) (v := undef) rfl (by kernel_rfl) (by kernel_rfl) (by kernel_rfl) (fun _ _ _ h => h) (Or.inr ⟨by kernel_rfl, rfl⟩) (by assumption) ?restr5_1_5
      try simp only [Act.put, List.getElem_toArray, List.getElem_cons_succ, List.getElem_cons_zero, List.setIfInBounds_toArray, List.set_cons_zero, List.set_cons_succ]
      refine wpAnyH_take (i := 6) (oi := _) (v := undef) rfl (by kernel_rfl) (by kernel_rfl) (by kernel_rfl) (fun _ _ _ h => h) (Or.inr ⟨by kernel_rfl, rfl⟩) (by assumption) ?restr5_1_6
      try simp only [Act.put, List.getElem_toArray, List.getElem_cons_succ, List.getElem_cons_zero, List.setIfInBounds_toArray, List.set_cons_zero, List.set_cons_succ]
      refine wpAnyH_take (i := 7) (oi := _) (v := ?vr5_1_7) rfl (by kernel_rfl) (by kernel_rfl) (by kernel_rfl) ?hqr5_1_7 (Or.inl ⟨by kernel_rfl, ?hyr5_1_7⟩) (by assumption) ?restr5_1_7
      case hqr5_1_7 => exact fun _ _ _ h => h
      case hyr5_1_7 => (intro w hSw; (try dsimp only at hSw); go_simp; try with_reducible rfl)
      try simp only [Act.put, List.getElem_toArray, List.getElem_cons_succ, List.getElem_cons_zero, List.setIfInBounds_toArray, List.set_cons_zero, List.set_cons_succ]
      refine wpAnyH_take (i := 8) (oi := _) (v := ?vr5_1_8) rfl (by kernel_rfl) (by kernel_rfl) (by kernel_rfl) ?hqr5_1_8 (Or.inl ⟨by kernel_rfl, ?hyr5_1_8⟩) (by assumption) ?restr5_1_8
      case hqr5_1_8 => exact fun _ _ _ h => h
      case hyr5_1_8 => (intro w hSw; (try dsimp only at hSw); go_simp; try with_reducible rfl)
      try simp only [Act.put, List.getElem_toArray, List.getElem_cons_succ, List.getElem_cons_zero, List.setIfInBounds_toArray, List.set_cons_zero, List.set_cons_succ]
      refine wpAnyH_take (i := 9) (oi := _) (v := undef) rfl (by kernel_rfl) (by kernel_rfl) (by kernel_rfl) (fun _ _ _ h => h) (Or.inr ⟨by kernel_rfl, rfl⟩) (by assumption) ?restr5_1_9
      try simp only [Act.put, List.getElem_toArray, List.getElem_cons_succ, List.getElem_cons_zero, List.setIfInBounds_toArray, List.set_cons_zero, List.set_cons_succ]
      refine wpAnyH_take (i := 10) (oi := _) (v := undef) rfl (by kernel_rfl) (by kernel_rfl) (by kernel_rfl) (fun _ _ _ h => h) (Or.inr ⟨by kernel_rfl, rfl⟩) (by assumption) ?restr5_1_10
      try simp only [Act.put, List.getElem_toArray, List.getElem_cons_succ, List.getElem_cons_zero, List.setIfInBounds_toArray, List.set_cons_zero, List.set_cons_succ]
      refine wpAnyH_take (i := 11) (oi := _) (v := undef) rfl (by kernel_rfl) (by kernel_rfl) (by kernel_rfl) (fun _ _ _ h => h) (Or.inr ⟨by kernel_rfl, rfl⟩) (by assumption) ?restr5_1_11
      try simp only [Act.put, List.getElem_toArray, List.getElem_cons_succ, List.getElem_cons_zero, List.setIfInBounds_toArray, List.set_cons_zero, List.set_cons_succ]
      refine wpAnyH_take (i := 12) (oi := _) (v := undef) rfl (by kernel_rfl) (by kernel_rfl) (by kernel_rfl) (fun _ _ _ h => h) (Or.inr ⟨by kernel_rfl, rfl⟩) (by assumption) ?restr5_1_12
      try simp only [Act.put, List.getElem_toArray, List.getElem_cons_succ, List.getElem_cons_zero, List.setIfInBounds_toArray, List.set_cons_zero, List.set_cons_succ]
      refine wpAnyH_take (i := 13) (oi := _) (v := undef) rfl (by kernel_rfl) (by kernel_rfl) (by kernel_rfl) (fun _ _ _ h => h) (Or.inr ⟨by kernel_rfl, rfl⟩) (by assumption) ?restr5_1_13
      try simp only [Act.put, List.getElem_toArray, List.getElem_cons_succ, List.getElem_cons_zero, List.setIfInBounds_toArray, List.set_cons_zero, List.set_cons_succ]
      refine wpAnyH_take (i := 14) (oi := _) (v := ?vr5_1_14) rfl (by kernel_rfl) (by kernel_rfl) (by kernel_rfl) ?hqr5_1_14 (Or.inl ⟨by kernel_rfl, ?hyr5_1_14⟩) (by assumption) ?restr5_1_14
      case hqr5_1_14 => exact fun _ _ _ h => h
      case hyr5_1_14 => (intro w hSw; (try dsimp only at hSw); go_simp; try with_reducible rfl)
      try simp only [Act.put, List.getElem_toArray, List.getElem_cons_succ, List.getElem_cons_zero, List.setIfInBounds_toArray, List.set_cons_zero, List.set_cons_succ]
      refine wpAnyH_take (i := 15) (oi := _) (v := ?vr5_1_15) rfl (by kernel_rfl) (by kernel_rfl) (by kernel_rfl) ?hqr5_1_15 (Or.inl ⟨by kernel_rfl, ?hyr5_1_15⟩) (by assumption) ?restr5_1_15
      case hqr5_1_15 => exact fun _ _ _ h => h
      case hyr5_1_15 => (intro w hSw; (try dsimp only at hSw); go_simp; try with_reducible rfl)
      try simp only [Act.put, List.getElem_toArray, List.getElem_cons_succ, List.getElem_cons_zero, List.setIfInBounds_toArray, List.set_cons_zero, List.set_cons_succ]
      refine wpAnyH_done (by kernel_rfl) ?_ _
      refine NoPanic.normal ?_
      go_wp2
      go_ret
      exact ⟨by rw [HRF.out]; rfl, HB.out.drew⟩
end Go.Proofs.YtkklmflclmgjeaaGreatDoor
