/-
  Schema: the chapter's rows are as they are said.
-/
import Derived.Test.YtkklmflclmgjeaaGreatDoorSr
set_option linter.unusedVariables false
set_option linter.unusedSimpArgs false
set_option linter.unusedVariables false
set_option linter.unusedSimpArgs false
namespace Go.Proofs.YtkklmflclmgjeaaGreatDoor
open Go.RowKit Go.Shelf Go.Lib
attribute [local go_sem] Oper.semAt_some

theorem mof2 (a : Int) (w : World) : Calls Tryz.prog 50 #[.int .i64 a] w fun e w' => e = .returned (.agg #[.int .i64 1, .int .i64 a, .int .u64 0, .string ⟨#[]⟩]) ∧ Bel w w' := mof_any a w
theorem mbytes2 (s : ByteArray) (w : World) : Calls Tryz.prog 51 #[.string s] w fun e w' => e = .returned (.agg #[.int .i64 4, .int .i64 0, .int .u64 0, .string s]) ∧ Bel w w' := mbytes_any s w
def ca : Col := ⟨⟨#[97]⟩, 1, 1, false⟩
def cb : Col := ⟨⟨#[98]⟩, 4, 2, true⟩
theorem placeB {i : Int} (h : PlaceIs [ca, cb] ⟨#[98]⟩ i) : i = 1 := by
  rcases h with ⟨-, h⟩ | ⟨k, x, rfl, hx, hn, -⟩
  · exact absurd h (by decide)
  · match k, hx with
    | 0, hx => simp at hx; subst hx; exact absurd hn (by decide)
    | 1, hx => rfl
    | k + 2, hx => simp at hx
theorem placeC {i : Int} (h : PlaceIs [ca, cb] ⟨#[99]⟩ i) : i = -1 := by
  rcases h with ⟨h, -⟩ | ⟨k, x, rfl, hx, hn, -⟩
  · exact h
  · match k, hx with
    | 0, hx => simp at hx; subst hx; exact absurd hn (by decide)
    | 1, hx => simp at hx; subst hx; exact absurd hn (by decide)
    | k + 2, hx => simp at hx
theorem cols_ab (w : World) (g : Nat) (h : w.heap[g]? = some (.cells #[.string ⟨#[97]⟩, .int .i64 1, .int .i64 1, .bool false, .string ⟨#[98]⟩, .int .i64 4, .int .i64 2, .bool true] 44 (0, 0))) : ColsAt w (.slice (some ⟨g, 0, none⟩) 2 2) [ca, cb] := by
  refine ⟨_, 2, rfl, Nat.le_refl _, by unfold maxLen; omega, fun _ => ⟨g, 0, rfl, fun i x hx => ?_⟩⟩
  match i, hx with
  | 0, hx => simp at hx; subst hx; simp [World.cell?, h, ca]
  | 1, hx => simp at hx; subst hx; simp [World.cell?, h, cb]
  | k + 2, hx => simp at hx
theorem ints_one (w : World) (g : Nat) (n : Int) (h : w.heap[g]? = some (.cells #[.int .i64 n] 3 (0, 0))) : IntsAt w (.slice (some ⟨g, 0, none⟩) 1 1) [n] := by
  refine ⟨_, 1, rfl, Nat.le_refl _, by unfold maxLen; omega, fun _ => ⟨g, 0, rfl, fun i x hx => ?_⟩⟩
  match i, hx with
  | 0, hx => simp at hx; subst hx; simp [World.cell?, h]
  | k + 1, hx => simp at hx
theorem ints_two (w : World) (g : Nat) (m n : Int) (h : w.heap[g]? = some (.cells #[.int .i64 m, .int .i64 n] 3 (0, 0))) : IntsAt w (.slice (some ⟨g, 0, none⟩) 2 2) [m, n] := by
  refine ⟨_, 2, rfl, Nat.le_refl _, by unfold maxLen; omega, fun _ => ⟨g, 0, rfl, fun i x hx => ?_⟩⟩
  match i, hx with
  | 0, hx => simp at hx; subst hx; simp [World.cell?, h]
  | 1, hx => simp at hx; subst hx; simp [World.cell?, h]
  | k + 2, hx => simp at hx
theorem lists_none (w : World) : ListsAt w (.slice none 0 0) [] := ⟨none, 0, rfl, Nat.le_refl _, by unfold maxLen; omega, fun h => by simp at h⟩
theorem vals_one (w : World) (g : Nat) (x : Val) (h : w.heap[g]? = some (.cells #[.int .i64 x.k, .int .i64 x.n, .int .u64 x.u, .string x.b] 48 (0, 0))) : ValsAt w (.slice (some ⟨g, 0, none⟩) 1 1) [x] := by
  refine ⟨_, 1, rfl, Nat.le_refl _, by unfold maxLen; omega, fun _ => ⟨g, 0, rfl, fun i y hy => ?_⟩⟩
  match i, hy with
  | 0, hy => simp at hy; subst hy; simp [World.cell?, h]
  | k + 1, hy => simp at hy
theorem vals_two (w : World) (g : Nat) (x y : Val) (h : w.heap[g]? = some (.cells #[.int .i64 x.k, .int .i64 x.n, .int .u64 x.u, .string x.b, .int .i64 y.k, .int .i64 y.n, .int .u64 y.u, .string y.b] 48 (0, 0))) : ValsAt w (.slice (some ⟨g, 0, none⟩) 2 2) [x, y] := by
  refine ⟨_, 2, rfl, Nat.le_refl _, by unfold maxLen; omega, fun _ => ⟨g, 0, rfl, fun i z hz => ?_⟩⟩
  match i, hz with
  | 0, hz => simp at hz; subst hz; simp [World.cell?, h]
  | 1, hz => simp at hz; subst hz; simp [World.cell?, h]
  | k + 2, hz => simp at hz
theorem wf_of (k n : Int) (b : ByteArray) (h0 : -1000 ≤ n) (h1 : n ≤ 1000) : Val.Wf ⟨k, n, 0, b⟩ := ⟨by show _ ≤ n; omega, by show n ≤ _; omega, by show (0 : Int) ≤ 0; omega, by show (0 : Int) ≤ _; omega⟩
theorem row1 : rowAll [ca, cb] [0] [] [⟨1, 127, 0, ⟨#[]⟩⟩, ⟨0, 0, 0, ⟨#[]⟩⟩] = 0 := by decide +kernel
theorem row2 : rowAll [ca, cb] [0] [] [⟨1, 128, 0, ⟨#[]⟩⟩, ⟨0, 0, 0, ⟨#[]⟩⟩] = 133 := by decide +kernel
theorem row3 : rowAll [ca, cb] [0] [] [⟨0, 0, 0, ⟨#[]⟩⟩, ⟨0, 0, 0, ⟨#[]⟩⟩] = 131 := by decide +kernel
theorem row4 : rowAll [ca, cb] [0] [] [⟨1, 1, 0, ⟨#[]⟩⟩] = 130 := by decide +kernel
theorem row5 : rowAll [ca, cb] [0] [] [⟨1, 1, 0, ⟨#[]⟩⟩, ⟨1, 2, 0, ⟨#[]⟩⟩] = 132 := by decide +kernel
set_option maxRecDepth 100000 in
set_option maxHeartbeats 8000000 in
theorem mworks_any (w : World) (hg : ErrType w) : Calls Tryz.prog 16 #[] w fun e w' => e = .returned (.bool true) ∧ Bel w w' := by
  have HG := Lib.hid hg
  clear hg
  go_enter Tryz.func16, Tryz.ntmps16
  go_wp2_with fail
  obtain ⟨W1, hW1⟩ : ∃ W1, W1 = (((w.alloc (.cells #[.string ⟨#[97]⟩, .int .i64 1, .int .i64 1, .bool false, .string ⟨#[98]⟩, .int .i64 4, .int .i64 2, .bool true] 44)).alloc (.cells #[.int .i64 0] 3)).alloc (.cells #[.slice (some ⟨w.heap.size, 0, none⟩) 2 2, .slice (some ⟨w.heap.size + 1, 0, none⟩) 1 1, .slice none 0 0] 26)).alloc (.cells #[.int .i64 0, .int .i64 0, .int .u64 0, .string ⟨#[]⟩] 48) := ⟨_, rfl⟩
  rw [← hW1]
  have hbw : Bel w W1 := by rw [hW1]; exact ((((Bel.refl w).alloc _).alloc _).alloc _).alloc _
  have f0 : ColsAt W1 (.slice (some ⟨w.heap.size, 0, none⟩) 2 2) [ca, cb] := cols_ab _ _ (by rw [hW1]; exact ((((Bel.refl _).alloc _).alloc _).alloc _).deferred (World.alloc_heap_new w _))
  have f1 : IntsAt W1 (.slice (some ⟨w.heap.size + 1, 0, none⟩) 1 1) [0] := ints_one _ _ _ (by
    have e : w.heap.size + 1 = (w.alloc (.cells #[.string ⟨#[97]⟩, .int .i64 1, .int .i64 1, .bool false, .string ⟨#[98]⟩, .int .i64 4, .int .i64 2, .bool true] 44)).heap.size := by simp
    rw [hW1, e]; exact (((Bel.refl _).alloc _).alloc _).deferred (World.alloc_heap_new _ _))
  have HF : Hid (∀ V, Bel W1 V → (ColsAt V (.slice (some ⟨w.heap.size, 0, none⟩) 2 2) [ca, cb] ∧ IntsAt V (.slice (some ⟨w.heap.size + 1, 0, none⟩) 1 1) [0] ∧ Bel w V) ∧
    (V.cell? ⟨w.heap.size + 1 + 1, 0, none⟩ = some (.slice (some ⟨w.heap.size, 0, none⟩) 2 2) ∧ V.cell? ⟨w.heap.size + 1 + 1, 1, none⟩ = some (.slice (some ⟨w.heap.size + 1, 0, none⟩) 1 1) ∧ V.cell? ⟨w.heap.size + 1 + 1, 2, none⟩ = some (.slice none 0 0) ∧
     V.cell? ⟨w.heap.size + 1 + 1 + 1, 0, none⟩ = some (.int .i64 0) ∧ V.cell? ⟨w.heap.size + 1 + 1 + 1, 1, none⟩ = some (.int .i64 0) ∧ V.cell? ⟨w.heap.size + 1 + 1 + 1, 2, none⟩ = some (.int .u64 0) ∧ V.cell? ⟨w.heap.size + 1 + 1 + 1, 3, none⟩ = some (.string ⟨#[]⟩))) := fun V h =>
    ⟨⟨f0.bel h, f1.bel h, hbw.then_ h⟩, h.c (by rw [hW1]; go_simp), h.c (by rw [hW1]; go_simp), h.c (by rw [hW1]; go_simp), h.c (by rw [hW1]; go_simp), h.c (by rw [hW1]; go_simp), h.c (by rw [hW1]; go_simp), h.c (by rw [hW1]; go_simp)⟩
  clear hW1 f0 f1 hbw
  refine (scPlace_any _ _ _ [ca, cb] ⟨#[98]⟩ _ (HF.out W1 (Bel.refl W1)).1.1).mono ?_
  rintro e w2 ⟨⟨i, rfl, hi⟩, hb2⟩
  obtain rfl := placeB hi
  have HB2 := Lib.hid hb2
  obtain ⟨-, s0, s1, s2, -, -, -, -⟩ := HF.out w2 hb2
  clear hi hb2
  go_wp2_with fail
  refine (scPlace_any _ _ _ [ca, cb] ⟨#[99]⟩ _ (HF.out w2 HB2.out).1.1).mono ?_
  rintro e w3 ⟨⟨i, rfl, hi⟩, hb3⟩
  obtain rfl := placeC hi
  have HB3 := Lib.hid (HB2.out.then_ hb3)
  clear hi hb3 s0 s1 s2
  go_wp2_with (first | (go_at_call 50; refine (mof2 _ _).mono ?_; rintro e w4 ⟨rfl, hb4⟩) | (go_at_call 51; refine (mbytes2 _ _).mono ?_; rintro e w5 ⟨rfl, hb5⟩))
  have HB5 := Lib.hid ((HB3.out.then_ hb4).then_ hb5)
  clear hb4 hb5
  refine (scPick_any _ _ [⟨1, 1, 0, ⟨#[]⟩⟩, ⟨4, 0, 0, ⟨#[2]⟩⟩] [1, 0] _ (vals_two _ w5.heap.size _ _ ?_) (ints_two _ (w5.heap.size + 1) 1 0 ?_) (by decide)).mono ?_
  · exact ((Bel.refl _).alloc _).deferred (World.alloc_heap_new w5 _)
  · have e : w5.heap.size + 1 = (w5.alloc (.cells #[.int .i64 1, .int .i64 1, .int .u64 0, .string ⟨#[]⟩, .int .i64 4, .int .i64 0, .int .u64 0, .string ⟨#[2]⟩] 48)).heap.size := by simp
    rw [e]; exact World.alloc_heap_new _ _
  rintro e w6 ⟨v, rfl, hv, hb6⟩
  have HB6 := Lib.hid (HB5.out.then_ ((((Bel.refl w5).alloc _).alloc _).then_ hb6))
  have hp : pickR [⟨1, 1, 0, ⟨#[]⟩⟩, ⟨4, 0, 0, ⟨#[2]⟩⟩] [1, 0] = ([⟨4, 0, 0, ⟨#[2]⟩⟩, ⟨1, 1, 0, ⟨#[]⟩⟩], 0) := by decide
  rw [hp] at hv
  rw [hp]
  dsimp only at hv ⊢
  obtain ⟨Av, cv, rfl, -⟩ := id hv
  have HV := Lib.hid hv
  obtain ⟨-, s0, s1, s2, n0, n1, n2, n3⟩ := HF.out w6 HB6.out
  clear hv hb6 HB5 HB3 HB2 hp
  go_wp2
  have HR1 : Hid (∀ V g, Bel w6 V → V.heap[g]? = some (.cells #[.int .i64 1, .int .i64 127, .int .u64 0, .string ⟨#[]⟩, .int .i64 0, .int .i64 0, .int .u64 0, .string ⟨#[]⟩] 48 (0, 0)) → Calls Tryz.prog 18 #[.agg #[.slice (some ⟨w.heap.size, 0, none⟩) 2 2, .slice (some ⟨w.heap.size + 1, 0, none⟩) 1 1, .slice none 0 0], .slice (some ⟨g, 0, none⟩) 2 2] V fun e w' => e = .returned (.int .i64 0) ∧ Bel V w') := fun V g h hg => by
    have q := (HF.out V (HB6.out.then_ h)).1
    have := scRow_any _ _ _ _ [ca, cb] [0] [] [⟨1, 127, 0, ⟨#[]⟩⟩, ⟨0, 0, 0, ⟨#[]⟩⟩] V (HG.out.bel q.2.2) q.1 q.2.1 (lists_none V) (vals_two V g _ _ hg) (fun x hx => by simp at hx; rcases hx with rfl | rfl <;> exact wf_of _ _ _ (by decide) (by decide))
    rw [row1] at this
    exact this
  have HR2 : Hid (∀ V g, Bel w6 V → V.heap[g]? = some (.cells #[.int .i64 1, .int .i64 128, .int .u64 0, .string ⟨#[]⟩, .int .i64 0, .int .i64 0, .int .u64 0, .string ⟨#[]⟩] 48 (0, 0)) → Calls Tryz.prog 18 #[.agg #[.slice (some ⟨w.heap.size, 0, none⟩) 2 2, .slice (some ⟨w.heap.size + 1, 0, none⟩) 1 1, .slice none 0 0], .slice (some ⟨g, 0, none⟩) 2 2] V fun e w' => e = .returned (.int .i64 133) ∧ Bel V w') := fun V g h hg => by
    have q := (HF.out V (HB6.out.then_ h)).1
    have := scRow_any _ _ _ _ [ca, cb] [0] [] [⟨1, 128, 0, ⟨#[]⟩⟩, ⟨0, 0, 0, ⟨#[]⟩⟩] V (HG.out.bel q.2.2) q.1 q.2.1 (lists_none V) (vals_two V g _ _ hg) (fun x hx => by simp at hx; rcases hx with rfl | rfl <;> exact wf_of _ _ _ (by decide) (by decide))
    rw [row2] at this
    exact this
  have HR3 : Hid (∀ V g, Bel w6 V → V.heap[g]? = some (.cells #[.int .i64 0, .int .i64 0, .int .u64 0, .string ⟨#[]⟩, .int .i64 0, .int .i64 0, .int .u64 0, .string ⟨#[]⟩] 48 (0, 0)) → Calls Tryz.prog 18 #[.agg #[.slice (some ⟨w.heap.size, 0, none⟩) 2 2, .slice (some ⟨w.heap.size + 1, 0, none⟩) 1 1, .slice none 0 0], .slice (some ⟨g, 0, none⟩) 2 2] V fun e w' => e = .returned (.int .i64 131) ∧ Bel V w') := fun V g h hg => by
    have q := (HF.out V (HB6.out.then_ h)).1
    have := scRow_any _ _ _ _ [ca, cb] [0] [] [⟨0, 0, 0, ⟨#[]⟩⟩, ⟨0, 0, 0, ⟨#[]⟩⟩] V (HG.out.bel q.2.2) q.1 q.2.1 (lists_none V) (vals_two V g _ _ hg) (fun x hx => by simp at hx; rcases hx with rfl | rfl <;> exact wf_of _ _ _ (by decide) (by decide))
    rw [row3] at this
    exact this
  have HR5 : Hid (∀ V g, Bel w6 V → V.heap[g]? = some (.cells #[.int .i64 1, .int .i64 1, .int .u64 0, .string ⟨#[]⟩, .int .i64 1, .int .i64 2, .int .u64 0, .string ⟨#[]⟩] 48 (0, 0)) → Calls Tryz.prog 18 #[.agg #[.slice (some ⟨w.heap.size, 0, none⟩) 2 2, .slice (some ⟨w.heap.size + 1, 0, none⟩) 1 1, .slice none 0 0], .slice (some ⟨g, 0, none⟩) 2 2] V fun e w' => e = .returned (.int .i64 132) ∧ Bel V w') := fun V g h hg => by
    have q := (HF.out V (HB6.out.then_ h)).1
    have := scRow_any _ _ _ _ [ca, cb] [0] [] [⟨1, 1, 0, ⟨#[]⟩⟩, ⟨1, 2, 0, ⟨#[]⟩⟩] V (HG.out.bel q.2.2) q.1 q.2.1 (lists_none V) (vals_two V g _ _ hg) (fun x hx => by simp at hx; rcases hx with rfl | rfl <;> exact wf_of _ _ _ (by decide) (by decide))
    rw [row5] at this
    exact this
  have HR4 : Hid (∀ V g, Bel w6 V → V.heap[g]? = some (.cells #[.int .i64 1, .int .i64 1, .int .u64 0, .string ⟨#[]⟩] 48 (0, 0)) → Calls Tryz.prog 18 #[.agg #[.slice (some ⟨w.heap.size, 0, none⟩) 2 2, .slice (some ⟨w.heap.size + 1, 0, none⟩) 1 1, .slice none 0 0], .slice (some ⟨g, 0, none⟩) 1 1] V fun e w' => e = .returned (.int .i64 130) ∧ Bel V w') := fun V g h hg => by
    have q := (HF.out V (HB6.out.then_ h)).1
    have := scRow_any _ _ _ _ [ca, cb] [0] [] [⟨1, 1, 0, ⟨#[]⟩⟩] V (HG.out.bel q.2.2) q.1 q.2.1 (lists_none V) (vals_one V g _ hg) (fun x hx => by simp at hx; subst hx; exact wf_of _ _ _ (by decide) (by decide))
    rw [row4] at this
    exact this
  have HSM : Hid (∀ V g, Bel w6 V → V.heap[g]? = some (.cells #[.int .i64 4, .int .i64 0, .int .u64 0, .string ⟨#[2]⟩, .int .i64 1, .int .i64 1, .int .u64 0, .string ⟨#[]⟩] 48 (0, 0)) → Calls Tryz.prog 22 #[.slice Av 2 cv, .slice (some ⟨g, 0, none⟩) 2 2] V fun e w' => e = .returned (.bool true) ∧ Bel V w') := fun V g h hg => by
    have := vrSame_any _ _ [⟨4, 0, 0, ⟨#[2]⟩⟩, ⟨1, 1, 0, ⟨#[]⟩⟩] [⟨4, 0, 0, ⟨#[2]⟩⟩, ⟨1, 1, 0, ⟨#[]⟩⟩] V (HV.out.bel h) (vals_two V g ⟨4, 0, 0, ⟨#[2]⟩⟩ ⟨1, 1, 0, ⟨#[]⟩⟩ hg)
    rw [decide_eq_true rfl] at this
    exact this
  have hS : ∀ V, Bel w6 V → (fun V : World => Bel w6 V ∧ V.cell? ⟨w.heap.size + 1 + 1, 0, none⟩ = some (.slice (some ⟨w.heap.size, 0, none⟩) 2 2) ∧ V.cell? ⟨w.heap.size + 1 + 1, 1, none⟩ = some (.slice (some ⟨w.heap.size + 1, 0, none⟩) 1 1) ∧ V.cell? ⟨w.heap.size + 1 + 1, 2, none⟩ = some (.slice none 0 0) ∧
     V.cell? ⟨w.heap.size + 1 + 1 + 1, 0, none⟩ = some (.int .i64 0) ∧ V.cell? ⟨w.heap.size + 1 + 1 + 1, 1, none⟩ = some (.int .i64 0) ∧ V.cell? ⟨w.heap.size + 1 + 1 + 1, 2, none⟩ = some (.int .u64 0) ∧ V.cell? ⟨w.heap.size + 1 + 1 + 1, 3, none⟩ = some (.string ⟨#[]⟩)) V := fun V h => ⟨h, (HF.out V (HB6.out.then_ h)).2⟩
  clear s0 s1 s2 n0 n1 n2 n3 HV
  refine wp_region_noPanic ?_
  refine wp_region_held_drew (S := (fun V : World => Bel w6 V ∧ V.cell? ⟨w.heap.size + 1 + 1, 0, none⟩ = some (.slice (some ⟨w.heap.size, 0, none⟩) 2 2) ∧ V.cell? ⟨w.heap.size + 1 + 1, 1, none⟩ = some (.slice (some ⟨w.heap.size + 1, 0, none⟩) 1 1) ∧ V.cell? ⟨w.heap.size + 1 + 1, 2, none⟩ = some (.slice none 0 0) ∧ V.cell? ⟨w.heap.size + 1 + 1 + 1, 0, none⟩ = some (.int .i64 0) ∧ V.cell? ⟨w.heap.size + 1 + 1 + 1, 1, none⟩ = some (.int .i64 0) ∧ V.cell? ⟨w.heap.size + 1 + 1 + 1, 2, none⟩ = some (.int .u64 0) ∧ V.cell? ⟨w.heap.size + 1 + 1 + 1, 3, none⟩ = some (.string ⟨#[]⟩))) (by kernel_rfl) ?_ (fun hHr1_0 => ?_)
  · (try dsimp only); (first | assumption | exact hS _ (Bel.refl w6).drew | exact hS _ (Bel.then_ (And.left (by assumption)) hbO) | exact hS _ (Bel.then_ (And.left (by assumption)) hbR) | exact hS _ (Bel.alloc (And.left (by assumption)) _))
  refine wpAnyH_take (i := 0) (oi := _) (v := ?vr1_1_0) rfl (by kernel_rfl) (by kernel_rfl) (by kernel_rfl) ?hqr1_1_0 (Or.inl ⟨by kernel_rfl, ?hyr1_1_0⟩) (by assumption) ?restr1_1_0
  case hqr1_1_0 => exact fun _ _ _ h => h
  case hyr1_1_0 => (intro w hSw; (try dsimp only at hSw); go_simp; try with_reducible rfl)
  try simp only [Act.put, List.getElem_toArray, List.getElem_cons_succ, List.getElem_cons_zero, List.setIfInBounds_toArray, List.set_cons_zero, List.set_cons_succ]
  refine wpAnyH_take (i := 2) (oi := _) (v := ?vr1_1_2) rfl (by kernel_rfl) (by kernel_rfl) (by kernel_rfl) ?hqr1_1_2 (Or.inl ⟨by kernel_rfl, ?hyr1_1_2⟩) (by assumption) ?restr1_1_2
  case hqr1_1_2 => exact fun _ _ _ h => h
  case hyr1_1_2 => (intro w hSw; (try dsimp only at hSw); go_simp; try with_reducible rfl)
  try simp only [Act.put, List.getElem_toArray, List.getElem_cons_succ, List.getElem_cons_zero, List.setIfInBounds_toArray, List.set_cons_zero, List.set_cons_succ]
  refine wpAnyH_ready (rs := [1]) (by kernel_rfl) (by simp) ?_
  refine AllReadyH.cons (o := _) rfl (fun K hK => ?_) AllReadyH.nil
  go_simp
  (go_at_call 50; refine (mof2 _ _).mono ?_; rintro e wO ⟨rfl, hbO⟩)
  try (go_wp2_with fail)
  refine hK.out _ _ ?_ (fun hHr1_1 => ?_)
  · (try dsimp only); (first | assumption | exact hS _ (Bel.refl w6).drew | exact hS _ (Bel.then_ (And.left (by assumption)) hbO) | exact hS _ (Bel.then_ (And.left (by assumption)) hbR) | exact hS _ (Bel.alloc (And.left (by assumption)) _))
  clear hK K hHr1_0
  try simp only [Act.put, List.getElem_toArray, List.getElem_cons_succ, List.getElem_cons_zero, List.setIfInBounds_toArray, List.set_cons_zero, List.set_cons_succ]
  refine wpAnyH_ready (rs := [3]) (by kernel_rfl) (by simp) ?_
  refine AllReadyH.cons (o := _) rfl (fun K hK => ?_) AllReadyH.nil
  go_simp
  refine hK.out _ _ ?_ (fun hHr1_2 => ?_)
  · (try dsimp only); (first | assumption | exact hS _ (Bel.refl w6).drew | exact hS _ (Bel.then_ (And.left (by assumption)) hbO) | exact hS _ (Bel.then_ (And.left (by assumption)) hbR) | exact hS _ (Bel.alloc (And.left (by assumption)) _))
  clear hK K hHr1_1
  try simp only [Act.put, List.getElem_toArray, List.getElem_cons_succ, List.getElem_cons_zero, List.setIfInBounds_toArray, List.set_cons_zero, List.set_cons_succ]
  refine wpAnyH_ready (rs := [4]) (by kernel_rfl) (by simp) ?_
  refine AllReadyH.cons (o := _) rfl (fun K hK => ?_) AllReadyH.nil
  go_simp
  (go_at_call 18; refine (HR1.out _ _ (And.left (by assumption)) (World.alloc_heap_new _ _)).mono ?_; rintro e wR ⟨rfl, hbR⟩)
  try (go_wp2_with fail)
  refine hK.out _ _ ?_ (fun hHr1_3 => ?_)
  · (try dsimp only); (first | assumption | exact hS _ (Bel.refl w6).drew | exact hS _ (Bel.then_ (And.left (by assumption)) hbO) | exact hS _ (Bel.then_ (And.left (by assumption)) hbR) | exact hS _ (Bel.alloc (And.left (by assumption)) _))
  clear hK K hHr1_2
  try simp only [Act.put, List.getElem_toArray, List.getElem_cons_succ, List.getElem_cons_zero, List.setIfInBounds_toArray, List.set_cons_zero, List.set_cons_succ]
  refine wpAnyH_ready (rs := [5]) (by kernel_rfl) (by simp) ?_
  refine AllReadyH.cons (o := _) rfl (fun K hK => ?_) AllReadyH.nil
  go_simp
  (go_at_call 17; refine (mnum_any _ _).mono ?_; rintro e w' ⟨rfl, rfl⟩)
  try (go_wp2_with fail)
  refine hK.out _ _ ?_ (fun hHr1_4 => ?_)
  · (try dsimp only); (first | assumption | exact hS _ (Bel.refl w6).drew | exact hS _ (Bel.then_ (And.left (by assumption)) hbO) | exact hS _ (Bel.then_ (And.left (by assumption)) hbR) | exact hS _ (Bel.alloc (And.left (by assumption)) _))
  clear hK K hHr1_3
  try simp only [Act.put, List.getElem_toArray, List.getElem_cons_succ, List.getElem_cons_zero, List.setIfInBounds_toArray, List.set_cons_zero, List.set_cons_succ]
  refine wpAnyH_take (i := 6) (oi := _) (v := ?vr1_1_6) rfl (by kernel_rfl) (by kernel_rfl) (by kernel_rfl) ?hqr1_1_6 (Or.inl ⟨by kernel_rfl, ?hyr1_1_6⟩) (by assumption) ?restr1_1_6
  case hqr1_1_6 => exact fun _ _ _ h => h
  case hyr1_1_6 => (intro w hSw; (try dsimp only at hSw); go_simp; try with_reducible rfl)
  try simp only [Act.put, List.getElem_toArray, List.getElem_cons_succ, List.getElem_cons_zero, List.setIfInBounds_toArray, List.set_cons_zero, List.set_cons_succ]
  refine wpAnyH_take (i := 7) (oi := _) (v := ?vr1_1_7) rfl (by kernel_rfl) (by kernel_rfl) (by kernel_rfl) ?hqr1_1_7 (Or.inl ⟨by kernel_rfl, ?hyr1_1_7⟩) (by assumption) ?restr1_1_7
  case hqr1_1_7 => exact fun _ _ _ h => h
  case hyr1_1_7 => (intro w hSw; (try dsimp only at hSw); go_simp; try with_reducible rfl)
  try simp only [Act.put, List.getElem_toArray, List.getElem_cons_succ, List.getElem_cons_zero, List.setIfInBounds_toArray, List.set_cons_zero, List.set_cons_succ]
  refine wpAnyH_take (i := 8) (oi := _) (v := ?vr1_1_8) rfl (by kernel_rfl) (by kernel_rfl) (by kernel_rfl) ?hqr1_1_8 (Or.inl ⟨by kernel_rfl, ?hyr1_1_8⟩) (by assumption) ?restr1_1_8
  case hqr1_1_8 => exact fun _ _ _ h => h
  case hyr1_1_8 => (intro w hSw; (try dsimp only at hSw); go_simp; try with_reducible rfl)
  try simp only [Act.put, List.getElem_toArray, List.getElem_cons_succ, List.getElem_cons_zero, List.setIfInBounds_toArray, List.set_cons_zero, List.set_cons_succ]
  refine wpAnyH_take (i := 10) (oi := _) (v := ?vr1_1_10) rfl (by kernel_rfl) (by kernel_rfl) (by kernel_rfl) ?hqr1_1_10 (Or.inl ⟨by kernel_rfl, ?hyr1_1_10⟩) (by assumption) ?restr1_1_10
  case hqr1_1_10 => exact fun _ _ _ h => h
  case hyr1_1_10 => (intro w hSw; (try dsimp only at hSw); go_simp; try with_reducible rfl)
  try simp only [Act.put, List.getElem_toArray, List.getElem_cons_succ, List.getElem_cons_zero, List.setIfInBounds_toArray, List.set_cons_zero, List.set_cons_succ]
  refine wpAnyH_ready (rs := [9]) (by kernel_rfl) (by simp) ?_
  refine AllReadyH.cons (o := _) rfl (fun K hK => ?_) AllReadyH.nil
  go_simp
  (go_at_call 50; refine (mof2 _ _).mono ?_; rintro e wO ⟨rfl, hbO⟩)
  try (go_wp2_with fail)
  refine hK.out _ _ ?_ (fun hHr1_5 => ?_)
  · (try dsimp only); (first | assumption | exact hS _ (Bel.refl w6).drew | exact hS _ (Bel.then_ (And.left (by assumption)) hbO) | exact hS _ (Bel.then_ (And.left (by assumption)) hbR) | exact hS _ (Bel.alloc (And.left (by assumption)) _))
  clear hK K hHr1_4
  try simp only [Act.put, List.getElem_toArray, List.getElem_cons_succ, List.getElem_cons_zero, List.setIfInBounds_toArray, List.set_cons_zero, List.set_cons_succ]
  refine wpAnyH_ready (rs := [11]) (by kernel_rfl) (by simp) ?_
  refine AllReadyH.cons (o := _) rfl (fun K hK => ?_) AllReadyH.nil
  go_simp
  refine hK.out _ _ ?_ (fun hHr1_6 => ?_)
  · (try dsimp only); (first | assumption | exact hS _ (Bel.refl w6).drew | exact hS _ (Bel.then_ (And.left (by assumption)) hbO) | exact hS _ (Bel.then_ (And.left (by assumption)) hbR) | exact hS _ (Bel.alloc (And.left (by assumption)) _))
  clear hK K hHr1_5
  try simp only [Act.put, List.getElem_toArray, List.getElem_cons_succ, List.getElem_cons_zero, List.setIfInBounds_toArray, List.set_cons_zero, List.set_cons_succ]
  refine wpAnyH_ready (rs := [12]) (by kernel_rfl) (by simp) ?_
  refine AllReadyH.cons (o := _) rfl (fun K hK => ?_) AllReadyH.nil
  go_simp
  (go_at_call 18; refine (HR2.out _ _ (And.left (by assumption)) (World.alloc_heap_new _ _)).mono ?_; rintro e wR ⟨rfl, hbR⟩)
  try (go_wp2_with fail)
  refine hK.out _ _ ?_ (fun hHr1_7 => ?_)
  · (try dsimp only); (first | assumption | exact hS _ (Bel.refl w6).drew | exact hS _ (Bel.then_ (And.left (by assumption)) hbO) | exact hS _ (Bel.then_ (And.left (by assumption)) hbR) | exact hS _ (Bel.alloc (And.left (by assumption)) _))
  clear hK K hHr1_6
  try simp only [Act.put, List.getElem_toArray, List.getElem_cons_succ, List.getElem_cons_zero, List.setIfInBounds_toArray, List.set_cons_zero, List.set_cons_succ]
  refine wpAnyH_ready (rs := [13]) (by kernel_rfl) (by simp) ?_
  refine AllReadyH.cons (o := _) rfl (fun K hK => ?_) AllReadyH.nil
  go_simp
  (go_at_call 17; refine (mnum_any _ _).mono ?_; rintro e w' ⟨rfl, rfl⟩)
  try (go_wp2_with fail)
  refine hK.out _ _ ?_ (fun hHr1_8 => ?_)
  · (try dsimp only); (first | assumption | exact hS _ (Bel.refl w6).drew | exact hS _ (Bel.then_ (And.left (by assumption)) hbO) | exact hS _ (Bel.then_ (And.left (by assumption)) hbR) | exact hS _ (Bel.alloc (And.left (by assumption)) _))
  clear hK K hHr1_7
  try simp only [Act.put, List.getElem_toArray, List.getElem_cons_succ, List.getElem_cons_zero, List.setIfInBounds_toArray, List.set_cons_zero, List.set_cons_succ]
  refine wpAnyH_take (i := 14) (oi := _) (v := ?vr1_1_14) rfl (by kernel_rfl) (by kernel_rfl) (by kernel_rfl) ?hqr1_1_14 (Or.inl ⟨by kernel_rfl, ?hyr1_1_14⟩) (by assumption) ?restr1_1_14
  case hqr1_1_14 => exact fun _ _ _ h => h
  case hyr1_1_14 => (intro w hSw; (try dsimp only at hSw); go_simp; try with_reducible rfl)
  try simp only [Act.put, List.getElem_toArray, List.getElem_cons_succ, List.getElem_cons_zero, List.setIfInBounds_toArray, List.set_cons_zero, List.set_cons_succ]
  refine wpAnyH_take (i := 15) (oi := _) (v := ?vr1_1_15) rfl (by kernel_rfl) (by kernel_rfl) (by kernel_rfl) ?hqr1_1_15 (Or.inl ⟨by kernel_rfl, ?hyr1_1_15⟩) (by assumption) ?restr1_1_15
  case hqr1_1_15 => exact fun _ _ _ h => h
  case hyr1_1_15 => (intro w hSw; (try dsimp only at hSw); go_simp; try with_reducible rfl)
  try simp only [Act.put, List.getElem_toArray, List.getElem_cons_succ, List.getElem_cons_zero, List.setIfInBounds_toArray, List.set_cons_zero, List.set_cons_succ]
  refine wpAnyH_take (i := 16) (oi := _) (v := ?vr1_1_16) rfl (by kernel_rfl) (by kernel_rfl) (by kernel_rfl) ?hqr1_1_16 (Or.inl ⟨by kernel_rfl, ?hyr1_1_16⟩) (by assumption) ?restr1_1_16
  case hqr1_1_16 => exact fun _ _ _ h => h
  case hyr1_1_16 => (intro w hSw; (try dsimp only at hSw); go_simp; try with_reducible rfl)
  try simp only [Act.put, List.getElem_toArray, List.getElem_cons_succ, List.getElem_cons_zero, List.setIfInBounds_toArray, List.set_cons_zero, List.set_cons_succ]
  refine wpAnyH_take (i := 17) (oi := _) (v := ?vr1_1_17) rfl (by kernel_rfl) (by kernel_rfl) (by kernel_rfl) ?hqr1_1_17 (Or.inl ⟨by kernel_rfl, ?hyr1_1_17⟩) (by assumption) ?restr1_1_17
  case hqr1_1_17 => exact fun _ _ _ h => h
  case hyr1_1_17 => (intro w hSw; (try dsimp only at hSw); go_simp; try with_reducible rfl)
  try simp only [Act.put, List.getElem_toArray, List.getElem_cons_succ, List.getElem_cons_zero, List.setIfInBounds_toArray, List.set_cons_zero, List.set_cons_succ]
  refine wpAnyH_take (i := 18) (oi := _) (v := ?vr1_1_18) rfl (by kernel_rfl) (by kernel_rfl) (by kernel_rfl) ?hqr1_1_18 (Or.inl ⟨by kernel_rfl, ?hyr1_1_18⟩) (by assumption) ?restr1_1_18
  case hqr1_1_18 => exact fun _ _ _ h => h
  case hyr1_1_18 => (intro w hSw; (try dsimp only at hSw); go_simp; try with_reducible rfl)
  try simp only [Act.put, List.getElem_toArray, List.getElem_cons_succ, List.getElem_cons_zero, List.setIfInBounds_toArray, List.set_cons_zero, List.set_cons_succ]
  refine wpAnyH_take (i := 19) (oi := _) (v := ?vr1_1_19) rfl (by kernel_rfl) (by kernel_rfl) (by kernel_rfl) ?hqr1_1_19 (Or.inl ⟨by kernel_rfl, ?hyr1_1_19⟩) (by assumption) ?restr1_1_19
  case hqr1_1_19 => exact fun _ _ _ h => h
  case hyr1_1_19 => (intro w hSw; (try dsimp only at hSw); go_simp; try with_reducible rfl)
  try simp only [Act.put, List.getElem_toArray, List.getElem_cons_succ, List.getElem_cons_zero, List.setIfInBounds_toArray, List.set_cons_zero, List.set_cons_succ]
  refine wpAnyH_ready (rs := [20]) (by kernel_rfl) (by simp) ?_
  refine AllReadyH.cons (o := _) rfl (fun K hK => ?_) AllReadyH.nil
  go_simp
  refine hK.out _ _ ?_ (fun hHr1_9 => ?_)
  · (try dsimp only); (first | assumption | exact hS _ (Bel.refl w6).drew | exact hS _ (Bel.then_ (And.left (by assumption)) hbO) | exact hS _ (Bel.then_ (And.left (by assumption)) hbR) | exact hS _ (Bel.alloc (And.left (by assumption)) _))
  clear hK K hHr1_8
  try simp only [Act.put, List.getElem_toArray, List.getElem_cons_succ, List.getElem_cons_zero, List.setIfInBounds_toArray, List.set_cons_zero, List.set_cons_succ]
  refine wpAnyH_ready (rs := [21]) (by kernel_rfl) (by simp) ?_
  refine AllReadyH.cons (o := _) rfl (fun K hK => ?_) AllReadyH.nil
  go_simp
  (go_at_call 18; refine (HR3.out _ _ (And.left (by assumption)) (World.alloc_heap_new _ _)).mono ?_; rintro e wR ⟨rfl, hbR⟩)
  try (go_wp2_with fail)
  refine hK.out _ _ ?_ (fun hHr1_10 => ?_)
  · (try dsimp only); (first | assumption | exact hS _ (Bel.refl w6).drew | exact hS _ (Bel.then_ (And.left (by assumption)) hbO) | exact hS _ (Bel.then_ (And.left (by assumption)) hbR) | exact hS _ (Bel.alloc (And.left (by assumption)) _))
  clear hK K hHr1_9
  try simp only [Act.put, List.getElem_toArray, List.getElem_cons_succ, List.getElem_cons_zero, List.setIfInBounds_toArray, List.set_cons_zero, List.set_cons_succ]
  refine wpAnyH_ready (rs := [22]) (by kernel_rfl) (by simp) ?_
  refine AllReadyH.cons (o := _) rfl (fun K hK => ?_) AllReadyH.nil
  go_simp
  (go_at_call 17; refine (mnum_any _ _).mono ?_; rintro e w' ⟨rfl, rfl⟩)
  try (go_wp2_with fail)
  refine hK.out _ _ ?_ (fun hHr1_11 => ?_)
  · (try dsimp only); (first | assumption | exact hS _ (Bel.refl w6).drew | exact hS _ (Bel.then_ (And.left (by assumption)) hbO) | exact hS _ (Bel.then_ (And.left (by assumption)) hbR) | exact hS _ (Bel.alloc (And.left (by assumption)) _))
  clear hK K hHr1_10
  try simp only [Act.put, List.getElem_toArray, List.getElem_cons_succ, List.getElem_cons_zero, List.setIfInBounds_toArray, List.set_cons_zero, List.set_cons_succ]
  refine wpAnyH_take (i := 23) (oi := _) (v := ?vr1_1_23) rfl (by kernel_rfl) (by kernel_rfl) (by kernel_rfl) ?hqr1_1_23 (Or.inl ⟨by kernel_rfl, ?hyr1_1_23⟩) (by assumption) ?restr1_1_23
  case hqr1_1_23 => exact fun _ _ _ h => h
  case hyr1_1_23 => (intro w hSw; (try dsimp only at hSw); go_simp; try with_reducible rfl)
  try simp only [Act.put, List.getElem_toArray, List.getElem_cons_succ, List.getElem_cons_zero, List.setIfInBounds_toArray, List.set_cons_zero, List.set_cons_succ]
  refine wpAnyH_take (i := 24) (oi := _) (v := ?vr1_1_24) rfl (by kernel_rfl) (by kernel_rfl) (by kernel_rfl) ?hqr1_1_24 (Or.inl ⟨by kernel_rfl, ?hyr1_1_24⟩) (by assumption) ?restr1_1_24
  case hqr1_1_24 => exact fun _ _ _ h => h
  case hyr1_1_24 => (intro w hSw; (try dsimp only at hSw); go_simp; try with_reducible rfl)
  try simp only [Act.put, List.getElem_toArray, List.getElem_cons_succ, List.getElem_cons_zero, List.setIfInBounds_toArray, List.set_cons_zero, List.set_cons_succ]
  refine wpAnyH_take (i := 25) (oi := _) (v := ?vr1_1_25) rfl (by kernel_rfl) (by kernel_rfl) (by kernel_rfl) ?hqr1_1_25 (Or.inl ⟨by kernel_rfl, ?hyr1_1_25⟩) (by assumption) ?restr1_1_25
  case hqr1_1_25 => exact fun _ _ _ h => h
  case hyr1_1_25 => (intro w hSw; (try dsimp only at hSw); go_simp; try with_reducible rfl)
  try simp only [Act.put, List.getElem_toArray, List.getElem_cons_succ, List.getElem_cons_zero, List.setIfInBounds_toArray, List.set_cons_zero, List.set_cons_succ]
  refine wpAnyH_take (i := 26) (oi := _) (v := ?vr1_1_26) rfl (by kernel_rfl) (by kernel_rfl) (by kernel_rfl) ?hqr1_1_26 (Or.inl ⟨by kernel_rfl, ?hyr1_1_26⟩) (by assumption) ?restr1_1_26
  case hqr1_1_26 => exact fun _ _ _ h => h
  case hyr1_1_26 => (intro w hSw; (try dsimp only at hSw); go_simp; try with_reducible rfl)
  try simp only [Act.put, List.getElem_toArray, List.getElem_cons_succ, List.getElem_cons_zero, List.setIfInBounds_toArray, List.set_cons_zero, List.set_cons_succ]
  refine wpAnyH_ready (rs := [27]) (by kernel_rfl) (by simp) ?_
  refine AllReadyH.cons (o := _) rfl (fun K hK => ?_) AllReadyH.nil
  go_simp
  (go_at_call 50; refine (mof2 _ _).mono ?_; rintro e wO ⟨rfl, hbO⟩)
  try (go_wp2_with fail)
  refine hK.out _ _ ?_ (fun hHr1_12 => ?_)
  · (try dsimp only); (first | assumption | exact hS _ (Bel.refl w6).drew | exact hS _ (Bel.then_ (And.left (by assumption)) hbO) | exact hS _ (Bel.then_ (And.left (by assumption)) hbR) | exact hS _ (Bel.alloc (And.left (by assumption)) _))
  clear hK K hHr1_11
  try simp only [Act.put, List.getElem_toArray, List.getElem_cons_succ, List.getElem_cons_zero, List.setIfInBounds_toArray, List.set_cons_zero, List.set_cons_succ]
  refine wpAnyH_ready (rs := [28]) (by kernel_rfl) (by simp) ?_
  refine AllReadyH.cons (o := _) rfl (fun K hK => ?_) AllReadyH.nil
  go_simp
  refine hK.out _ _ ?_ (fun hHr1_13 => ?_)
  · (try dsimp only); (first | assumption | exact hS _ (Bel.refl w6).drew | exact hS _ (Bel.then_ (And.left (by assumption)) hbO) | exact hS _ (Bel.then_ (And.left (by assumption)) hbR) | exact hS _ (Bel.alloc (And.left (by assumption)) _))
  clear hK K hHr1_12
  try simp only [Act.put, List.getElem_toArray, List.getElem_cons_succ, List.getElem_cons_zero, List.setIfInBounds_toArray, List.set_cons_zero, List.set_cons_succ]
  refine wpAnyH_ready (rs := [29]) (by kernel_rfl) (by simp) ?_
  refine AllReadyH.cons (o := _) rfl (fun K hK => ?_) AllReadyH.nil
  go_simp
  (go_at_call 18; refine (HR4.out _ _ (And.left (by assumption)) (World.alloc_heap_new _ _)).mono ?_; rintro e wR ⟨rfl, hbR⟩)
  try (go_wp2_with fail)
  refine hK.out _ _ ?_ (fun hHr1_14 => ?_)
  · (try dsimp only); (first | assumption | exact hS _ (Bel.refl w6).drew | exact hS _ (Bel.then_ (And.left (by assumption)) hbO) | exact hS _ (Bel.then_ (And.left (by assumption)) hbR) | exact hS _ (Bel.alloc (And.left (by assumption)) _))
  clear hK K hHr1_13
  try simp only [Act.put, List.getElem_toArray, List.getElem_cons_succ, List.getElem_cons_zero, List.setIfInBounds_toArray, List.set_cons_zero, List.set_cons_succ]
  refine wpAnyH_ready (rs := [30]) (by kernel_rfl) (by simp) ?_
  refine AllReadyH.cons (o := _) rfl (fun K hK => ?_) AllReadyH.nil
  go_simp
  (go_at_call 17; refine (mnum_any _ _).mono ?_; rintro e w' ⟨rfl, rfl⟩)
  try (go_wp2_with fail)
  refine hK.out _ _ ?_ (fun hHr1_15 => ?_)
  · (try dsimp only); (first | assumption | exact hS _ (Bel.refl w6).drew | exact hS _ (Bel.then_ (And.left (by assumption)) hbO) | exact hS _ (Bel.then_ (And.left (by assumption)) hbR) | exact hS _ (Bel.alloc (And.left (by assumption)) _))
  clear hK K hHr1_14
  try simp only [Act.put, List.getElem_toArray, List.getElem_cons_succ, List.getElem_cons_zero, List.setIfInBounds_toArray, List.set_cons_zero, List.set_cons_succ]
  refine wpAnyH_take (i := 31) (oi := _) (v := ?vr1_1_31) rfl (by kernel_rfl) (by kernel_rfl) (by kernel_rfl) ?hqr1_1_31 (Or.inl ⟨by kernel_rfl, ?hyr1_1_31⟩) (by assumption) ?restr1_1_31
  case hqr1_1_31 => exact fun _ _ _ h => h
  case hyr1_1_31 => (intro w hSw; (try dsimp only at hSw); go_simp; try with_reducible rfl)
  try simp only [Act.put, List.getElem_toArray, List.getElem_cons_succ, List.getElem_cons_zero, List.setIfInBounds_toArray, List.set_cons_zero, List.set_cons_succ]
  refine wpAnyH_take (i := 32) (oi := _) (v := ?vr1_1_32) rfl (by kernel_rfl) (by kernel_rfl) (by kernel_rfl) ?hqr1_1_32 (Or.inl ⟨by kernel_rfl, ?hyr1_1_32⟩) (by assumption) ?restr1_1_32
  case hqr1_1_32 => exact fun _ _ _ h => h
  case hyr1_1_32 => (intro w hSw; (try dsimp only at hSw); go_simp; try with_reducible rfl)
  try simp only [Act.put, List.getElem_toArray, List.getElem_cons_succ, List.getElem_cons_zero, List.setIfInBounds_toArray, List.set_cons_zero, List.set_cons_succ]
  refine wpAnyH_take (i := 33) (oi := _) (v := ?vr1_1_33) rfl (by kernel_rfl) (by kernel_rfl) (by kernel_rfl) ?hqr1_1_33 (Or.inl ⟨by kernel_rfl, ?hyr1_1_33⟩) (by assumption) ?restr1_1_33
  case hqr1_1_33 => exact fun _ _ _ h => h
  case hyr1_1_33 => (intro w hSw; (try dsimp only at hSw); go_simp; try with_reducible rfl)
  try simp only [Act.put, List.getElem_toArray, List.getElem_cons_succ, List.getElem_cons_zero, List.setIfInBounds_toArray, List.set_cons_zero, List.set_cons_succ]
  refine wpAnyH_take (i := 34) (oi := _) (v := ?vr1_1_34) rfl (by kernel_rfl) (by kernel_rfl) (by kernel_rfl) ?hqr1_1_34 (Or.inl ⟨by kernel_rfl, ?hyr1_1_34⟩) (by assumption) ?restr1_1_34
  case hqr1_1_34 => exact fun _ _ _ h => h
  case hyr1_1_34 => (intro w hSw; (try dsimp only at hSw); go_simp; try with_reducible rfl)
  try simp only [Act.put, List.getElem_toArray, List.getElem_cons_succ, List.getElem_cons_zero, List.setIfInBounds_toArray, List.set_cons_zero, List.set_cons_succ]
  refine wpAnyH_ready (rs := [35]) (by kernel_rfl) (by simp) ?_
  refine AllReadyH.cons (o := _) rfl (fun K hK => ?_) AllReadyH.nil
  go_simp
  (go_at_call 50; refine (mof2 _ _).mono ?_; rintro e wO ⟨rfl, hbO⟩)
  try (go_wp2_with fail)
  refine hK.out _ _ ?_ (fun hHr1_16 => ?_)
  · (try dsimp only); (first | assumption | exact hS _ (Bel.refl w6).drew | exact hS _ (Bel.then_ (And.left (by assumption)) hbO) | exact hS _ (Bel.then_ (And.left (by assumption)) hbR) | exact hS _ (Bel.alloc (And.left (by assumption)) _))
  clear hK K hHr1_15
  try simp only [Act.put, List.getElem_toArray, List.getElem_cons_succ, List.getElem_cons_zero, List.setIfInBounds_toArray, List.set_cons_zero, List.set_cons_succ]
  refine wpAnyH_ready (rs := [36]) (by kernel_rfl) (by simp) ?_
  refine AllReadyH.cons (o := _) rfl (fun K hK => ?_) AllReadyH.nil
  go_simp
  (go_at_call 50; refine (mof2 _ _).mono ?_; rintro e wO ⟨rfl, hbO⟩)
  try (go_wp2_with fail)
  refine hK.out _ _ ?_ (fun hHr1_17 => ?_)
  · (try dsimp only); (first | assumption | exact hS _ (Bel.refl w6).drew | exact hS _ (Bel.then_ (And.left (by assumption)) hbO) | exact hS _ (Bel.then_ (And.left (by assumption)) hbR) | exact hS _ (Bel.alloc (And.left (by assumption)) _))
  clear hK K hHr1_16
  try simp only [Act.put, List.getElem_toArray, List.getElem_cons_succ, List.getElem_cons_zero, List.setIfInBounds_toArray, List.set_cons_zero, List.set_cons_succ]
  refine wpAnyH_ready (rs := [37]) (by kernel_rfl) (by simp) ?_
  refine AllReadyH.cons (o := _) rfl (fun K hK => ?_) AllReadyH.nil
  go_simp
  refine hK.out _ _ ?_ (fun hHr1_18 => ?_)
  · (try dsimp only); (first | assumption | exact hS _ (Bel.refl w6).drew | exact hS _ (Bel.then_ (And.left (by assumption)) hbO) | exact hS _ (Bel.then_ (And.left (by assumption)) hbR) | exact hS _ (Bel.alloc (And.left (by assumption)) _))
  clear hK K hHr1_17
  try simp only [Act.put, List.getElem_toArray, List.getElem_cons_succ, List.getElem_cons_zero, List.setIfInBounds_toArray, List.set_cons_zero, List.set_cons_succ]
  refine wpAnyH_ready (rs := [38]) (by kernel_rfl) (by simp) ?_
  refine AllReadyH.cons (o := _) rfl (fun K hK => ?_) AllReadyH.nil
  go_simp
  (go_at_call 18; refine (HR5.out _ _ (And.left (by assumption)) (World.alloc_heap_new _ _)).mono ?_; rintro e wR ⟨rfl, hbR⟩)
  try (go_wp2_with fail)
  refine hK.out _ _ ?_ (fun hHr1_19 => ?_)
  · (try dsimp only); (first | assumption | exact hS _ (Bel.refl w6).drew | exact hS _ (Bel.then_ (And.left (by assumption)) hbO) | exact hS _ (Bel.then_ (And.left (by assumption)) hbR) | exact hS _ (Bel.alloc (And.left (by assumption)) _))
  clear hK K hHr1_18
  try simp only [Act.put, List.getElem_toArray, List.getElem_cons_succ, List.getElem_cons_zero, List.setIfInBounds_toArray, List.set_cons_zero, List.set_cons_succ]
  refine wpAnyH_ready (rs := [39]) (by kernel_rfl) (by simp) ?_
  refine AllReadyH.cons (o := _) rfl (fun K hK => ?_) AllReadyH.nil
  go_simp
  (go_at_call 17; refine (mnum_any _ _).mono ?_; rintro e w' ⟨rfl, rfl⟩)
  try (go_wp2_with fail)
  refine hK.out _ _ ?_ (fun hHr1_20 => ?_)
  · (try dsimp only); (first | assumption | exact hS _ (Bel.refl w6).drew | exact hS _ (Bel.then_ (And.left (by assumption)) hbO) | exact hS _ (Bel.then_ (And.left (by assumption)) hbR) | exact hS _ (Bel.alloc (And.left (by assumption)) _))
  clear hK K hHr1_19
  try simp only [Act.put, List.getElem_toArray, List.getElem_cons_succ, List.getElem_cons_zero, List.setIfInBounds_toArray, List.set_cons_zero, List.set_cons_succ]
  refine wpAnyH_take (i := 40) (oi := _) (v := ?vr1_1_40) rfl (by kernel_rfl) (by kernel_rfl) (by kernel_rfl) ?hqr1_1_40 (Or.inl ⟨by kernel_rfl, ?hyr1_1_40⟩) (by assumption) ?restr1_1_40
  case hqr1_1_40 => exact fun _ _ _ h => h
  case hyr1_1_40 => (intro w hSw; (try dsimp only at hSw); go_simp; try with_reducible rfl)
  try simp only [Act.put, List.getElem_toArray, List.getElem_cons_succ, List.getElem_cons_zero, List.setIfInBounds_toArray, List.set_cons_zero, List.set_cons_succ]
  refine wpAnyH_take (i := 41) (oi := _) (v := ?vr1_1_41) rfl (by kernel_rfl) (by kernel_rfl) (by kernel_rfl) ?hqr1_1_41 (Or.inl ⟨by kernel_rfl, ?hyr1_1_41⟩) (by assumption) ?restr1_1_41
  case hqr1_1_41 => exact fun _ _ _ h => h
  case hyr1_1_41 => (intro w hSw; (try dsimp only at hSw); go_simp; try with_reducible rfl)
  try simp only [Act.put, List.getElem_toArray, List.getElem_cons_succ, List.getElem_cons_zero, List.setIfInBounds_toArray, List.set_cons_zero, List.set_cons_succ]
  refine wpAnyH_take (i := 42) (oi := _) (v := ?vr1_1_42) rfl (by kernel_rfl) (by kernel_rfl) (by kernel_rfl) ?hqr1_1_42 (Or.inl ⟨by kernel_rfl, ?hyr1_1_42⟩) (by assumption) ?restr1_1_42
  case hqr1_1_42 => exact fun _ _ _ h => h
  case hyr1_1_42 => (intro w hSw; (try dsimp only at hSw); go_simp; try with_reducible rfl)
  try simp only [Act.put, List.getElem_toArray, List.getElem_cons_succ, List.getElem_cons_zero, List.setIfInBounds_toArray, List.set_cons_zero, List.set_cons_succ]
  refine wpAnyH_take (i := 43) (oi := _) (v := ?vr1_1_43) rfl (by kernel_rfl) (by kernel_rfl) (by kernel_rfl) ?hqr1_1_43 (Or.inl ⟨by kernel_rfl, ?hyr1_1_43⟩) (by assumption) ?restr1_1_43
  case hqr1_1_43 => exact fun _ _ _ h => h
  case hyr1_1_43 => (intro w hSw; (try dsimp only at hSw); go_simp; try with_reducible rfl)
  try simp only [Act.put, List.getElem_toArray, List.getElem_cons_succ, List.getElem_cons_zero, List.setIfInBounds_toArray, List.set_cons_zero, List.set_cons_succ]
  refine wpAnyH_take (i := 44) (oi := _) (v := ?vr1_1_44) rfl (by kernel_rfl) (by kernel_rfl) (by kernel_rfl) ?hqr1_1_44 (Or.inl ⟨by kernel_rfl, ?hyr1_1_44⟩) (by assumption) ?restr1_1_44
  case hqr1_1_44 => exact fun _ _ _ h => h
  case hyr1_1_44 => (intro w hSw; (try dsimp only at hSw); go_simp; try with_reducible rfl)
  try simp only [Act.put, List.getElem_toArray, List.getElem_cons_succ, List.getElem_cons_zero, List.setIfInBounds_toArray, List.set_cons_zero, List.set_cons_succ]
  refine wpAnyH_take (i := 45) (oi := _) (v := ?vr1_1_45) rfl (by kernel_rfl) (by kernel_rfl) (by kernel_rfl) ?hqr1_1_45 (Or.inl ⟨by kernel_rfl, ?hyr1_1_45⟩) (by assumption) ?restr1_1_45
  case hqr1_1_45 => exact fun _ _ _ h => h
  case hyr1_1_45 => (intro w hSw; (try dsimp only at hSw); go_simp; try with_reducible rfl)
  try simp only [Act.put, List.getElem_toArray, List.getElem_cons_succ, List.getElem_cons_zero, List.setIfInBounds_toArray, List.set_cons_zero, List.set_cons_succ]
  refine wpAnyH_take (i := 46) (oi := _) (v := ?vr1_1_46) rfl (by kernel_rfl) (by kernel_rfl) (by kernel_rfl) ?hqr1_1_46 (Or.inl ⟨by kernel_rfl, ?hyr1_1_46⟩) (by assumption) ?restr1_1_46
  case hqr1_1_46 => exact fun _ _ _ h => h
  case hyr1_1_46 => (intro w hSw; (try dsimp only at hSw); go_simp; try with_reducible rfl)
  try simp only [Act.put, List.getElem_toArray, List.getElem_cons_succ, List.getElem_cons_zero, List.setIfInBounds_toArray, List.set_cons_zero, List.set_cons_succ]
  refine wpAnyH_take (i := 47) (oi := _) (v := ?vr1_1_47) rfl (by kernel_rfl) (by kernel_rfl) (by kernel_rfl) ?hqr1_1_47 (Or.inl ⟨by kernel_rfl, ?hyr1_1_47⟩) (by assumption) ?restr1_1_47
  case hqr1_1_47 => exact fun _ _ _ h => h
  case hyr1_1_47 => (intro w hSw; (try dsimp only at hSw); go_simp; try with_reducible rfl)
  try simp only [Act.put, List.getElem_toArray, List.getElem_cons_succ, List.getElem_cons_zero, List.setIfInBounds_toArray, List.set_cons_zero, List.set_cons_succ]
  refine wpAnyH_take (i := 48) (oi := _) (v := ?vr1_1_48) rfl (by kernel_rfl) (by kernel_rfl) (by kernel_rfl) ?hqr1_1_48 (Or.inl ⟨by kernel_rfl, ?hyr1_1_48⟩) (by assumption) ?restr1_1_48
  case hqr1_1_48 => exact fun _ _ _ h => h
  case hyr1_1_48 => (intro w hSw; (try dsimp only at hSw); go_simp; try with_reducible rfl)
  try simp only [Act.put, List.getElem_toArray, List.getElem_cons_succ, List.getElem_cons_zero, List.setIfInBounds_toArray, List.set_cons_zero, List.set_cons_succ]
  refine wpAnyH_take (i := 49) (oi := _) (v := ?vr1_1_49) rfl (by kernel_rfl) (by kernel_rfl) (by kernel_rfl) ?hqr1_1_49 (Or.inl ⟨by kernel_rfl, ?hyr1_1_49⟩) (by assumption) ?restr1_1_49
  case hqr1_1_49 => exact fun _ _ _ h => h
  case hyr1_1_49 => (intro w hSw; (try dsimp only at hSw); go_simp; try with_reducible rfl)
  try simp only [Act.put, List.getElem_toArray, List.getElem_cons_succ, List.getElem_cons_zero, List.setIfInBounds_toArray, List.set_cons_zero, List.set_cons_succ]
  refine wpAnyH_take (i := 50) (oi := _) (v := ?vr1_1_50) rfl (by kernel_rfl) (by kernel_rfl) (by kernel_rfl) ?hqr1_1_50 (Or.inl ⟨by kernel_rfl, ?hyr1_1_50⟩) (by assumption) ?restr1_1_50
  case hqr1_1_50 => exact fun _ _ _ h => h
  case hyr1_1_50 => (intro w hSw; (try dsimp only at hSw); go_simp; try with_reducible rfl)
  try simp only [Act.put, List.getElem_toArray, List.getElem_cons_succ, List.getElem_cons_zero, List.setIfInBounds_toArray, List.set_cons_zero, List.set_cons_succ]
  refine wpAnyH_take (i := 51) (oi := _) (v := ?vr1_1_51) rfl (by kernel_rfl) (by kernel_rfl) (by kernel_rfl) ?hqr1_1_51 (Or.inl ⟨by kernel_rfl, ?hyr1_1_51⟩) (by assumption) ?restr1_1_51
  case hqr1_1_51 => exact fun _ _ _ h => h
  case hyr1_1_51 => (intro w hSw; (try dsimp only at hSw); go_simp; try with_reducible rfl)
  try simp only [Act.put, List.getElem_toArray, List.getElem_cons_succ, List.getElem_cons_zero, List.setIfInBounds_toArray, List.set_cons_zero, List.set_cons_succ]
  refine wpAnyH_take (i := 52) (oi := _) (v := ?vr1_1_52) rfl (by kernel_rfl) (by kernel_rfl) (by kernel_rfl) ?hqr1_1_52 (Or.inl ⟨by kernel_rfl, ?hyr1_1_52⟩) (by assumption) ?restr1_1_52
  case hqr1_1_52 => exact fun _ _ _ h => h
  case hyr1_1_52 => (intro w hSw; (try dsimp only at hSw); go_simp; try with_reducible rfl)
  try simp only [Act.put, List.getElem_toArray, List.getElem_cons_succ, List.getElem_cons_zero, List.setIfInBounds_toArray, List.set_cons_zero, List.set_cons_succ]
  refine wpAnyH_take (i := 53) (oi := _) (v := ?vr1_1_53) rfl (by kernel_rfl) (by kernel_rfl) (by kernel_rfl) ?hqr1_1_53 (Or.inl ⟨by kernel_rfl, ?hyr1_1_53⟩) (by assumption) ?restr1_1_53
  case hqr1_1_53 => exact fun _ _ _ h => h
  case hyr1_1_53 => (intro w hSw; (try dsimp only at hSw); go_simp; try with_reducible rfl)
  try simp only [Act.put, List.getElem_toArray, List.getElem_cons_succ, List.getElem_cons_zero, List.setIfInBounds_toArray, List.set_cons_zero, List.set_cons_succ]
  refine wpAnyH_take (i := 54) (oi := _) (v := ?vr1_1_54) rfl (by kernel_rfl) (by kernel_rfl) (by kernel_rfl) ?hqr1_1_54 (Or.inl ⟨by kernel_rfl, ?hyr1_1_54⟩) (by assumption) ?restr1_1_54
  case hqr1_1_54 => exact fun _ _ _ h => h
  case hyr1_1_54 => (intro w hSw; (try dsimp only at hSw); go_simp; try with_reducible rfl)
  try simp only [Act.put, List.getElem_toArray, List.getElem_cons_succ, List.getElem_cons_zero, List.setIfInBounds_toArray, List.set_cons_zero, List.set_cons_succ]
  refine wpAnyH_ready (rs := [55]) (by kernel_rfl) (by simp) ?_
  refine AllReadyH.cons (o := _) rfl (fun K hK => ?_) AllReadyH.nil
  go_simp
  (go_at_call 17; refine (mnum_any _ _).mono ?_; rintro e w' ⟨rfl, rfl⟩)
  try (go_wp2_with fail)
  refine hK.out _ _ ?_ (fun hHr1_21 => ?_)
  · (try dsimp only); (first | assumption | exact hS _ (Bel.refl w6).drew | exact hS _ (Bel.then_ (And.left (by assumption)) hbO) | exact hS _ (Bel.then_ (And.left (by assumption)) hbR) | exact hS _ (Bel.alloc (And.left (by assumption)) _))
  clear hK K hHr1_20
  try simp only [Act.put, List.getElem_toArray, List.getElem_cons_succ, List.getElem_cons_zero, List.setIfInBounds_toArray, List.set_cons_zero, List.set_cons_succ]
  refine wpAnyH_take (i := 56) (oi := _) (v := ?vr1_1_56) rfl (by kernel_rfl) (by kernel_rfl) (by kernel_rfl) ?hqr1_1_56 (Or.inl ⟨by kernel_rfl, ?hyr1_1_56⟩) (by assumption) ?restr1_1_56
  case hqr1_1_56 => exact fun _ _ _ h => h
  case hyr1_1_56 => (intro w hSw; (try dsimp only at hSw); go_simp; try with_reducible rfl)
  try simp only [Act.put, List.getElem_toArray, List.getElem_cons_succ, List.getElem_cons_zero, List.setIfInBounds_toArray, List.set_cons_zero, List.set_cons_succ]
  refine wpAnyH_take (i := 57) (oi := _) (v := ?vr1_1_57) rfl (by kernel_rfl) (by kernel_rfl) (by kernel_rfl) ?hqr1_1_57 (Or.inl ⟨by kernel_rfl, ?hyr1_1_57⟩) (by assumption) ?restr1_1_57
  case hqr1_1_57 => exact fun _ _ _ h => h
  case hyr1_1_57 => (intro w hSw; (try dsimp only at hSw); go_simp; try with_reducible rfl)
  try simp only [Act.put, List.getElem_toArray, List.getElem_cons_succ, List.getElem_cons_zero, List.setIfInBounds_toArray, List.set_cons_zero, List.set_cons_succ]
  refine wpAnyH_take (i := 58) (oi := _) (v := ?vr1_1_58) rfl (by kernel_rfl) (by kernel_rfl) (by kernel_rfl) ?hqr1_1_58 (Or.inl ⟨by kernel_rfl, ?hyr1_1_58⟩) (by assumption) ?restr1_1_58
  case hqr1_1_58 => exact fun _ _ _ h => h
  case hyr1_1_58 => (intro w hSw; (try dsimp only at hSw); go_simp; try with_reducible rfl)
  try simp only [Act.put, List.getElem_toArray, List.getElem_cons_succ, List.getElem_cons_zero, List.setIfInBounds_toArray, List.set_cons_zero, List.set_cons_succ]
  refine wpAnyH_take (i := 59) (oi := _) (v := ?vr1_1_59) rfl (by kernel_rfl) (by kernel_rfl) (by kernel_rfl) ?hqr1_1_59 (Or.inl ⟨by kernel_rfl, ?hyr1_1_59⟩) (by assumption) ?restr1_1_59
  case hqr1_1_59 => exact fun _ _ _ h => h
  case hyr1_1_59 => (intro w hSw; (try dsimp only at hSw); go_simp; try with_reducible rfl)
  try simp only [Act.put, List.getElem_toArray, List.getElem_cons_succ, List.getElem_cons_zero, List.setIfInBounds_toArray, List.set_cons_zero, List.set_cons_succ]
  refine wpAnyH_ready (rs := [60]) (by kernel_rfl) (by simp) ?_
  refine AllReadyH.cons (o := _) rfl (fun K hK => ?_) AllReadyH.nil
  go_simp
  (go_at_call 51; refine (mbytes2 _ _).mono ?_; rintro e wO ⟨rfl, hbO⟩)
  try (go_wp2_with fail)
  refine hK.out _ _ ?_ (fun hHr1_22 => ?_)
  · (try dsimp only); (first | assumption | exact hS _ (Bel.refl w6).drew | exact hS _ (Bel.then_ (And.left (by assumption)) hbO) | exact hS _ (Bel.then_ (And.left (by assumption)) hbR) | exact hS _ (Bel.alloc (And.left (by assumption)) _))
  clear hK K hHr1_21
  try simp only [Act.put, List.getElem_toArray, List.getElem_cons_succ, List.getElem_cons_zero, List.setIfInBounds_toArray, List.set_cons_zero, List.set_cons_succ]
  refine wpAnyH_ready (rs := [61]) (by kernel_rfl) (by simp) ?_
  refine AllReadyH.cons (o := _) rfl (fun K hK => ?_) AllReadyH.nil
  go_simp
  (go_at_call 50; refine (mof2 _ _).mono ?_; rintro e wO ⟨rfl, hbO⟩)
  try (go_wp2_with fail)
  refine hK.out _ _ ?_ (fun hHr1_23 => ?_)
  · (try dsimp only); (first | assumption | exact hS _ (Bel.refl w6).drew | exact hS _ (Bel.then_ (And.left (by assumption)) hbO) | exact hS _ (Bel.then_ (And.left (by assumption)) hbR) | exact hS _ (Bel.alloc (And.left (by assumption)) _))
  clear hK K hHr1_22
  try simp only [Act.put, List.getElem_toArray, List.getElem_cons_succ, List.getElem_cons_zero, List.setIfInBounds_toArray, List.set_cons_zero, List.set_cons_succ]
  refine wpAnyH_ready (rs := [62]) (by kernel_rfl) (by simp) ?_
  refine AllReadyH.cons (o := _) rfl (fun K hK => ?_) AllReadyH.nil
  go_simp
  refine hK.out _ _ ?_ (fun hHr1_24 => ?_)
  · (try dsimp only); (first | assumption | exact hS _ (Bel.refl w6).drew | exact hS _ (Bel.then_ (And.left (by assumption)) hbO) | exact hS _ (Bel.then_ (And.left (by assumption)) hbR) | exact hS _ (Bel.alloc (And.left (by assumption)) _))
  clear hK K hHr1_23
  try simp only [Act.put, List.getElem_toArray, List.getElem_cons_succ, List.getElem_cons_zero, List.setIfInBounds_toArray, List.set_cons_zero, List.set_cons_succ]
  refine wpAnyH_ready (rs := [63]) (by kernel_rfl) (by simp) ?_
  refine AllReadyH.cons (o := _) rfl (fun K hK => ?_) AllReadyH.nil
  go_simp
  (go_at_call 22; refine (HSM.out _ _ (And.left (by assumption)) (World.alloc_heap_new _ _)).mono ?_; rintro e wR ⟨rfl, hbR⟩)
  try (go_wp2_with fail)
  refine hK.out _ _ ?_ (fun hHr1_25 => ?_)
  · (try dsimp only); (first | assumption | exact hS _ (Bel.refl w6).drew | exact hS _ (Bel.then_ (And.left (by assumption)) hbO) | exact hS _ (Bel.then_ (And.left (by assumption)) hbR) | exact hS _ (Bel.alloc (And.left (by assumption)) _))
  clear hK K hHr1_24
  try simp only [Act.put, List.getElem_toArray, List.getElem_cons_succ, List.getElem_cons_zero, List.setIfInBounds_toArray, List.set_cons_zero, List.set_cons_succ]
  refine wpAnyH_take (i := 64) (oi := { dst := some 96, op := _, type := _, pos := _, after := _, guard := _ }) (v := ?vr1_1_64) rfl (by kernel_rfl) (by kernel_rfl) (by kernel_rfl) ?hqr1_1_64 (Or.inl ⟨by kernel_rfl, ?hyr1_1_64⟩) (by assumption) ?restr1_1_64
  case hqr1_1_64 => exact fun _ _ _ h => h
  case hyr1_1_64 => (intro w hSw; (try dsimp only at hSw); go_simp; try with_reducible rfl)
  try simp only [Act.put, List.getElem_toArray, List.getElem_cons_succ, List.getElem_cons_zero, List.setIfInBounds_toArray, List.set_cons_zero, List.set_cons_succ]
  refine wpAnyH_take (i := 65) (oi := { dst := some 0, op := _, type := _, pos := _, after := _, guard := _ }) (v := ?vr1_1_65) rfl (by kernel_rfl) (by kernel_rfl) (by kernel_rfl) ?hqr1_1_65 (Or.inl ⟨by kernel_rfl, ?hyr1_1_65⟩) (by assumption) ?restr1_1_65
  case hqr1_1_65 => exact fun _ _ _ h => h
  case hyr1_1_65 => (intro w hSw; (try dsimp only at hSw); go_simp; try with_reducible rfl)
  try simp only [Act.put, List.getElem_toArray, List.getElem_cons_succ, List.getElem_cons_zero, List.setIfInBounds_toArray, List.set_cons_zero, List.set_cons_succ]
  refine wpAnyH_done (by kernel_rfl) ?_ _
  refine NoPanic.normal ?_
  have hfin := HF.out _ (HB6.out.then_ (And.left (by assumption)))
  go_wp2
  go_ret
  exact ⟨rfl, hfin.1.2.2⟩
end Go.Proofs.YtkklmflclmgjeaaGreatDoor
