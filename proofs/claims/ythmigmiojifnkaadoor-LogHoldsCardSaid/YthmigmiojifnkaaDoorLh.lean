/-
  LogHolds: what stands in memory between its steps; what each step hands back.
-/
import Derived.Test.YthmigmiojifnkaaDoorLp
import Derived.Test.YthmigmiojifnkaaDoorLt
set_option linter.unusedVariables false
set_option linter.unusedSimpArgs false
set_option linter.unusedVariables false
set_option linter.unusedSimpArgs false
namespace Go.Proofs.YthmigmiojifnkaaDoor
open Go.RowKit

/-- The list of what was had: its own cells lie apart from fb, what they name lies in the memory of old. -/
def HadIs (w wr : World) (fb : Nat → Prop) (A : Option Addr) (H : List (List UInt8)) : Prop :=
  ∃ vs : List Value, vs.length = H.length ∧ (0 < H.length → ∃ g off, A = some ⟨g, off, none⟩ ∧ g < wr.heap.size ∧ ¬ fb g ∧ ∀ j u, vs[j]? = some u → wr.cell? ⟨g, off + j, none⟩ = some u) ∧
    ∀ (i : Nat) (s : List UInt8), H[i]? = some s → ∃ (Ai : Option Addr) (ci : Nat), vs[i]? = some (.slice Ai s.length ci) ∧ Reads w w.heap.size 1 Ai s.length (s.map bv)
theorem HadIs.opp {w wr w' : World} {fb fb' : Nat → Prop} {A : Option Addr} {H : List (List UInt8)} (h : HadIs w wr fb A H) (hO : Opp fb fb' wr w') : HadIs w w' fb' A H := by
  obtain ⟨vs, h1, h2, h3⟩ := h
  refine ⟨vs, h1, fun hn => ?_, h3⟩
  obtain ⟨g, off, e, hg, hf, hc⟩ := h2 hn
  exact ⟨g, off, e, Nat.lt_of_lt_of_le hg hO.size, fun hf' => (hO.sub g hf').elim hf (fun h => by omega), fun j u hu => (World.cell?_of_block (a := ⟨g, off + j, none⟩) (hO.block g hg hf)).trans (hc j u hu)⟩
theorem HadIs.mono {w wr : World} {fb fb' : Nat → Prop} {A : Option Addr} {H : List (List UInt8)} (h : HadIs w wr fb A H) (hf : ∀ b, fb' b → fb b) : HadIs w wr fb' A H := by
  obtain ⟨vs, h1, h2, h3⟩ := h
  refine ⟨vs, h1, fun hn => ?_, h3⟩
  obtain ⟨g, off, e, hg, hf', hc⟩ := h2 hn
  exact ⟨g, off, e, hg, fun h => hf' (hf g h), hc⟩
theorem HadIs.list {w wr : World} {fb : Nat → Prop} {A : Option Addr} {H : List (List UInt8)} (h : HadIs w wr fb A H) (hB : Bel w wr) : ListAt wr A H := by
  obtain ⟨vs, h1, h2, h3⟩ := h
  refine ⟨vs, h1, fun hn => ?_, fun i s hi => ?_⟩
  · obtain ⟨g, off, e, hg, hf, hc⟩ := h2 hn
    exact ⟨g, off, e, hg, hc⟩
  · obtain ⟨Ai, ci, e, r⟩ := h3 i s hi
    exact ⟨Ai, ci, e, r.belHeap hB⟩
theorem HadIs.of_list {w wr : World} {fb : Nat → Prop} {A : Option Addr} {H : List (List UInt8)} (h : ListAt w A H) (hB : Bel w wr) (hf : ∀ b, fb b → w.heap.size ≤ b) : HadIs w wr fb A H := by
  obtain ⟨vs, h1, h2, h3⟩ := h
  refine ⟨vs, h1, fun hn => ?_, h3⟩
  obtain ⟨g, off, e, hg, hc⟩ := h2 hn
  exact ⟨g, off, e, Nat.lt_of_lt_of_le hg hB.size, fun h => by have := hf g h; omega, fun j u hu => hB.c (hc j u hu)⟩
/-- How it stands between two steps. -/
def Turn (w W : World) (bl bd : Nat) (m : DM) (en : Int) (A : Option Addr) (H : List (List UInt8)) : Prop :=
  ∃ tn fd, LogIs W bl bd m 7 en tn fd ∧ w.heap.size ≤ bl ∧ (∀ b, fd b → w.heap.size ≤ b) ∧ Bel w W ∧ HadIs w W (fun b => fd b ∨ b = bl) A H
section
variable {w W W' : World} {bl bd i lo : Nat} {m : DM} {en : Int} {A : Option Addr} {H : List (List UInt8)}
theorem Turn.old (h : Turn w W bl bd m en A H) : Bel w W := by
  obtain ⟨tn, fd, h1, h2, h3, h4, h5⟩ := h
  exact h4
theorem Turn.bel (h : Turn w W bl bd m en A H) (hb : Bel W W') : Turn w W' bl bd m en A H := by
  obtain ⟨tn, fd, h1, h2, h3, h4, h5⟩ := h
  exact ⟨tn, fd, h1.bel hb, h2, h3, h4.then_ hb, h5.opp (Opp.of_bel hb)⟩
theorem Turn.at_ (h : Turn w W bl bd m en A H) {x : List UInt8} (hi : H[i]? = some x) : ∃ g off Ai ci, A = some ⟨g, off, none⟩ ∧ W.cell? ⟨g, off + i, none⟩ = some (.slice Ai x.length ci) ∧ Reads w w.heap.size 1 Ai x.length (x.map bv) := by
  obtain ⟨tn, fd, h1, h2, h3, h4, vs, k1, k2, k3⟩ := h
  have hlt := (List.getElem?_eq_some_iff.1 hi).1
  obtain ⟨g, off, e, hg, hf, hc⟩ := k2 (by omega)
  obtain ⟨Ai, ci, e2, r⟩ := k3 i x hi
  exact ⟨g, off, Ai, ci, e, hc i _ e2, r⟩
theorem t_sync (h : Turn w W bl bd m en A H) (hr : m.room ≠ 0) : Calls Tryd.prog 24 #[.pointer (some ⟨bd, 0, none⟩)] W fun e w' => e = .returned (.int .i64 0) ∧ Turn w w' bl bd m.sync en A H := by
  obtain ⟨tn, fd, h1, h2, h3, h4, h5⟩ := h
  refine (sync_any h1.disk hr).mono fun e w' ⟨he, fp', hD, hO⟩ => ⟨he, tn, _, h1.op hD hO, h2, fun b hb => (hO.sub b hb.1).elim (h3 b) (fun h => Nat.le_trans h4.size h), h4.trans (hO.below h4.size h3), h5.opp (opp_log hO)⟩
theorem t_crash (h : Turn w W bl bd m en A H) (hr : m.room ≠ 0) (keep torn : Int) (hk0 : 0 ≤ keep) (ht0 : 0 ≤ torn) (hlen : ∀ k x, m.loose[k]? = some x → ((crashTo m keep torn k) x.file).length + x.bytes.length ≤ 1000000000) (hn : m.loose.length ≤ 1000000) :
    Calls Tryd.prog 15 #[.pointer (some ⟨bd, 0, none⟩), .int .i64 keep, .int .i64 torn] W fun e w' => e = .returned (.int .i64 0) ∧ Turn w w' bl bd (m.crash keep torn) en A H := by
  obtain ⟨tn, fd, h1, h2, h3, h4, h5⟩ := h
  refine (crash_any h1.disk hr keep torn hk0 ht0 hlen hn).mono fun e w' ⟨he, fp', hD, hO⟩ => ⟨he, tn, _, h1.op hD hO, h2, fun b hb => (hO.sub b hb.1).elim (h3 b) (fun h => Nat.le_trans h4.size h), h4.trans (hO.below h4.size h3), h5.opp (opp_log hO)⟩
theorem t_append (h : Turn w W bl bd m en A H) (hfit : Fit m) (hg : ErrType w) (he0 : 0 ≤ en) (he : en ≤ 1000000000) (x : List UInt8) (hx : x.length ≤ 60) (Ai : Option Addr) (ci : Nat) (hr : Reads w w.heap.size 1 Ai x.length (x.map bv)) (hok : (m.append 7 (recN x)).2 = 0) :
    Calls Tryd.prog 21 #[.pointer (some ⟨bl, 0, none⟩), .slice Ai x.length ci] W fun e w' => e = .returned (.tuple #[.int .i64 en, .int .i64 0]) ∧ Turn w w' bl bd (m.append 7 (recN x)).1 (en + (x.length + 8 : Nat)) A H := by
  obtain ⟨tn, fd, h1, h2, h3, h4, h5⟩ := h
  refine (lAppend_ok h1 hfit (hg.bel h4) he0 he x Ai ci (by omega) (hr.belHeap h4) hok).mono fun e w' ⟨he, fd', hl, hO⟩ => ?_
  have hfb : ∀ b, (fd b ∨ b = bl) → w.heap.size ≤ b := fun b hb => hb.elim (h3 b) (fun h => h ▸ h2)
  exact ⟨he, tn, fd', hl, h2, fun b hb => (hO.sub b (.inl hb)).elim (hfb b) (fun h => Nat.le_trans h4.size h), h4.trans (hO.below h4.size hfb), h5.opp hO⟩
theorem t_open (h : Turn w W bl bd m en A H) (hfit : Fit m) (hg : ErrType w) (xs : List (List UInt8)) (t : List UInt8) (hx : ∀ x ∈ xs, x.length ≤ 60000) (ht : firstL t = none) (hs : m.files 7 = recsN xs ++ t) :
    Calls Tryd.prog 20 #[.pointer (some ⟨bd, 0, none⟩), .int .i64 7] W fun e w' => ∃ bl', e = .returned (.tuple #[.pointer (some ⟨bl', 0, none⟩), .int .i64 0]) ∧ Turn w w' bl' bd (m.opened 7 (recsN xs).length) (recsN xs).length A H := by
  obtain ⟨tn, fd, h1, h2, h3, h4, h5⟩ := h
  refine (lopen_any h1.disk hfit (hg.bel h4) 7 (by decide) (by decide) xs t hx ht hs).mono fun e w' ⟨bl', fd', he, hbl, hl, hO⟩ => ?_
  exact ⟨bl', he, _, fd', hl, Nat.le_trans h4.size hbl, fun b hb => (hO.sub b (.inl hb)).elim (h3 b) (fun h => Nat.le_trans h4.size h), h4.trans (hO.below h4.size h3), (h5.mono (fun b h => .inl h)).opp hO⟩
theorem t_start {fp : Nat → Prop} (h : DiskIs W bd (DM.new 5000) fp) (hg : ErrType w) (hB : Bel w W) (hf : ∀ b, fp b → w.heap.size ≤ b) (hL : ListAt w A H) :
    Calls Tryd.prog 20 #[.pointer (some ⟨bd, 0, none⟩), .int .i64 7] W fun e w' => ∃ bl', e = .returned (.tuple #[.pointer (some ⟨bl', 0, none⟩), .int .i64 0]) ∧ Turn w w' bl' bd (DM.new 5000) 0 A H := by
  refine (lopen_any h ((stand_new []).fit (by simp) (by simp) (by simp)) (hg.bel hB) 7 (by decide) (by decide) [] [] (by simp) rfl rfl).mono fun e w' ⟨bl', fd', he, hbl, hl, hO⟩ => ?_
  have hop : (DM.new 5000).opened 7 (recsN []).length = DM.new 5000 := by unfold DM.opened; exact if_pos rfl
  rw [hop] at hl
  have hfb : ∀ b, (fd' b ∨ b = bl') → w.heap.size ≤ b := fun b hb => (hO.sub b hb).elim (hf b) (fun h => Nat.le_trans hB.size h)
  have hB' := hB.trans (hO.below hB.size hf)
  exact ⟨bl', he, _, fd', hl, hfb _ (.inr rfl), fun b hb => hfb b (.inl hb), hB', HadIs.of_list hL hB' hfb⟩
theorem t_told (h : Turn w W bl bd m en A H) (hfit : Fit m) (q : Nat) (hq : q ≤ H.length) (hH : ∀ x ∈ H, x.length ≤ 60) (hl : H.length ≤ 1000) (cap : Nat) (hs : m.files 7 = recsN (H.take q)) :
    Calls Tryd.prog 25 #[.pointer (some ⟨bl, 0, none⟩), .slice A H.length cap] W fun e w' => e = .returned (.tuple #[.int .i64 q, .bool true]) ∧ Turn w w' bl bd m en A H := by
  obtain ⟨tn, fd, h1, h2, h3, h4, h5⟩ := id h
  have hql : (H.take q).length = q := by rw [List.length_take]; omega
  refine (told_any h1 hfit (by decide) (by decide) (H.take q) [] (fun x hx => by have := hH x (List.mem_of_mem_take hx); omega) rfl (by rw [hs, List.append_nil]) A cap H (h5.list h4) (by rw [hql]) hl).mono fun e w' ⟨he, hb⟩ => ?_
  rw [hql] at he
  exact ⟨he, h.bel hb⟩
end
theorem row_slice {w : World} {b e n : Nat} {v : Value} {xs : List Value} (h : w.ownsRow b e 1 v n xs) : ∃ A c, v = .slice A n c ∧ n ≤ c := by
  rcases h.2 with ⟨rfl, rfl⟩ | ⟨g, cap, cur, rfl, _, _, hnc, _⟩
  · exact ⟨none, 0, rfl, Nat.le_refl _⟩
  · exact ⟨_, cap, rfl, hnc⟩
/-- The cells of a list that was had. -/
def Elems (w : World) (vs : List Value) (H : List (List UInt8)) : Prop := vs.length = H.length ∧ ∀ (i : Nat) (s : List UInt8), H[i]? = some s → ∃ (Ai : Option Addr) (ci : Nat), vs[i]? = some (.slice Ai s.length ci) ∧ Reads w w.heap.size 1 Ai s.length (s.map bv)
theorem Elems.one {w : World} {vs : List Value} {H : List (List UInt8)} (h : Elems w vs H) : ∀ u ∈ vs, u.oneCell' = true := fun u hu => by
  obtain ⟨i, hi⟩ := List.mem_iff_getElem?.1 hu
  have hlt : i < H.length := by have := (List.getElem?_eq_some_iff.1 hi).1; have := h.1; omega
  obtain ⟨Ai, ci, e, _⟩ := h.2 i _ (List.getElem?_eq_getElem hlt)
  rw [hi] at e
  cases e
  rfl
theorem Elems.take {w : World} {vs : List Value} {H : List (List UInt8)} (h : Elems w vs H) (r : Nat) : Elems w (vs.take r) (H.take r) := by
  refine ⟨by simp [h.1], fun i s hi => ?_⟩
  have hlt := (List.getElem?_eq_some_iff.1 hi).1
  rw [List.length_take] at hlt
  rw [List.getElem?_take, if_pos (by omega)] at hi
  obtain ⟨Ai, ci, e, r⟩ := h.2 i s hi
  exact ⟨Ai, ci, by rw [List.getElem?_take, if_pos (by omega)]; exact e, r⟩
theorem Elems.append {w : World} {vs us : List Value} {H L : List (List UInt8)} (h : Elems w vs H) (k : Elems w us L) : Elems w (vs ++ us) (H ++ L) := by
  refine ⟨by simp [h.1, k.1], fun i s hi => ?_⟩
  by_cases hlt : i < H.length
  · rw [List.getElem?_append_left hlt] at hi
    obtain ⟨Ai, ci, e, r⟩ := h.2 i s hi
    exact ⟨Ai, ci, by rw [List.getElem?_append_left (by rw [h.1]; exact hlt)]; exact e, r⟩
  · rw [List.getElem?_append_right (by omega)] at hi
    obtain ⟨Ai, ci, e, r⟩ := k.2 _ s hi
    exact ⟨Ai, ci, by rw [List.getElem?_append_right (by rw [h.1]; omega), h.1]; exact e, r⟩
theorem list_row {w : World} {A : Option Addr} {L : List (List UInt8)} (h : ListAt w A L) : ∃ vs, Elems w vs L ∧ ∀ W, Bel w W → Reads W W.heap.size 1 A L.length vs := by
  obtain ⟨vs, h1, h2, h3⟩ := h
  refine ⟨vs, ⟨h1, h3⟩, fun W hb => ⟨by omega, fun hn => ?_⟩⟩
  obtain ⟨g, off, e, hg, hc⟩ := h2 hn
  exact ⟨_, e, Nat.lt_of_lt_of_le hg hb.size, fun j u hu => by rw [add_free]; exact hb.c (hc j u hu)⟩
theorem Turn.row {w W : World} {bl bd : Nat} {m : DM} {en : Int} {A : Option Addr} {H : List (List UInt8)} (h : Turn w W bl bd m en A H) : ∃ vs, Elems w vs H ∧ ∀ r, r ≤ H.length → ∀ W', Bel W W' → Reads W' W'.heap.size 1 A r (vs.take r) := by
  obtain ⟨tn, fd, h1, h2, h3, h4, vs, k1, k2, k3⟩ := h
  refine ⟨vs, ⟨k1, k3⟩, fun r hr W' hb => ⟨by rw [List.length_take]; omega, fun hn => ?_⟩⟩
  obtain ⟨g, off, e, hg, hf, hc⟩ := k2 (by omega)
  refine ⟨_, e, Nat.lt_of_lt_of_le hg hb.size, fun j u hu => ?_⟩
  have hj := (List.getElem?_eq_some_iff.1 hu).1
  rw [List.length_take] at hj
  rw [List.getElem?_take, if_pos (by omega)] at hu
  rw [add_free]
  exact hb.c (hc j u hu)
theorem Turn.with_ {w W W' : World} {bl bd : Nat} {m : DM} {en : Int} {A A2 : Option Addr} {H H2 : List (List UInt8)} (h : Turn w W bl bd m en A H) (hb : Bel W W') {n2 c2 : Nat} {vs2 : List Value} (hown : W'.ownsRow W.heap.size 31 1 (.slice A2 n2 c2) n2 vs2) (hn : n2 = H2.length) (he : Elems w vs2 H2) : Turn w W' bl bd m en A2 H2 := by
  obtain ⟨tn, fd, h1, h2, h3, h4, h5⟩ := h
  refine ⟨tn, fd, h1.bel hb, h2, h3, h4.then_ hb, vs2, he.1, fun hn0 => ?_, he.2⟩
  obtain ⟨g, cap, hv, hg1, hg2⟩ := hown.form (by omega)
  cases hv
  have hbl := (Array.getElem?_eq_some_iff.1 h1.blk).1
  refine ⟨g, 0, rfl, hg2, fun hf => hf.elim (fun hf => by have := h1.tight g hf; omega) (fun hf => by omega), fun j u hu => ?_⟩
  have := hown.cells (g := g) rfl j u hu
  rw [add_free] at this
  exact this
theorem infoBs : (Tryd.prog.info? 31).map (fun i => (i.zero, i.size, i.bytes)) = some (some (.slice none 0 0), 1, 24) := by kernel_rfl
/-- How it stands at a turn's start. -/
def OuterIs (w wr : World) (bd : Nat) (L : List (List UInt8)) (turn : Nat) (g f had least : Value) : Prop :=
  ∃ (bl : Nat) (m : DM) (A : Option Addr) (cap : Nat) (H : List (List UInt8)) (q : Nat), g = .pointer (some ⟨bl, 0, none⟩) ∧ f = .int .i64 0 ∧ had = .slice A H.length cap ∧ least = .int .i64 q ∧
    Turn w wr bl bd m (recsN (H.take q)).length A H ∧ Stand m H q q ∧ q ≤ H.length ∧ H.length ≤ cap ∧ (∀ x ∈ H, x.length ≤ 60) ∧ H.length ≤ 20 + 20 * turn ∧ (turn = 0 → H = L ∧ q = 0)
/-- How it stands at a record. -/
def InnerIs (w wr : World) (bl bd : Nat) (A : Option Addr) (H : List (List UInt8)) (synced : Int) (q i : Nat) : Prop :=
  ∃ m lo, Turn w wr bl bd m (recsN (H.take i)).length A H ∧ Stand m H i lo ∧ ((q : Int) ≤ synced → synced < i → synced ≤ lo)
theorem InnerIs.start {w wr : World} {bl bd : Nat} {A : Option Addr} {H : List (List UInt8)} {synced : Int} {q : Nat} {m : DM} (h : Turn w wr bl bd m (recsN (H.take q)).length A H) (hs : Stand m H q q) : InnerIs w wr bl bd A H synced q q := ⟨m, q, h, hs, fun h1 h2 => by omega⟩
theorem InnerIs.bel {w wr w' : World} {bl bd : Nat} {A : Option Addr} {H : List (List UInt8)} {synced : Int} {q i : Nat} (h : InnerIs w wr bl bd A H synced q i) (hb : Bel wr w') : InnerIs w w' bl bd A H synced q i := by
  obtain ⟨m, lo, h1, h2, h3⟩ := h
  exact ⟨m, lo, h1.bel hb, h2, h3⟩
theorem InnerIs.old {w wr : World} {bl bd : Nat} {A : Option Addr} {H : List (List UInt8)} {synced : Int} {q i : Nat} (h : InnerIs w wr bl bd A H synced q i) : Bel w wr := by
  obtain ⟨m, lo, h1, h2, h3⟩ := h
  exact h1.old
/-- How it stands at a record, all being kept. -/
def SyncIs (w wr : World) (bl bd : Nat) (A : Option Addr) (H : List (List UInt8)) (i : Nat) : Prop := ∃ m, Turn w wr bl bd m (recsN (H.take i)).length A H ∧ Stand m H i i
theorem InnerIs.sync {w wr : World} {bl bd : Nat} {A : Option Addr} {H : List (List UInt8)} {synced : Int} {q i : Nat} (h : InnerIs w wr bl bd A H synced q i) (hH : ∀ x ∈ H, x.length ≤ 60) (hl : H.length ≤ 60) :
    Calls Tryd.prog 24 #[.pointer (some ⟨bd, 0, none⟩)] wr fun e w' => e = .returned (.int .i64 0) ∧ SyncIs w w' bl bd A H i := by
  obtain ⟨m, lo, h1, h2, h3⟩ := h
  exact (t_sync h1 (by rw [h2.room]; decide)).mono fun e w' ⟨he, ht⟩ => ⟨he, m.sync, ht, h2.sync hH hl⟩
theorem put_key {w wr : World} {bl bd : Nat} {A : Option Addr} {H : List (List UInt8)} {synced : Int} {q i lo : Nat} {m : DM} (h1 : Turn w wr bl bd m (recsN (H.take i)).length A H) (h2 : Stand m H i lo) (h3 : (q : Int) ≤ synced → synced < (i + 1 : Nat) → synced ≤ lo)
    (hg : ErrType w) (hH : ∀ x ∈ H, x.length ≤ 60) (hl : H.length ≤ 60) (x : List UInt8) (hx : H[i]? = some x) (Ai : Option Addr) (ci : Nat) (hr : Reads w w.heap.size 1 Ai x.length (x.map bv)) :
    Calls Tryd.prog 21 #[.pointer (some ⟨bl, 0, none⟩), .slice Ai x.length ci] wr fun e w' => (∃ n : Int, e = .returned (.tuple #[.int .i64 n, .int .i64 0])) ∧ InnerIs w w' bl bd A H synced q (i + 1) := by
  have hi := (List.getElem?_eq_some_iff.1 hx).1
  have hlen := recs_take_short H hH i
  have hnx := recs_take hx
  obtain ⟨e1, e2⟩ := h2.append hH hl hx
  refine (t_append h1 (h2.fit hH hl (by omega)) hg (by omega) (by omega) x (hH x (List.mem_of_getElem? hx)) Ai ci hr e1).mono fun e w' ⟨he, ht⟩ => ⟨⟨_, he⟩, _, lo, ?_, e2, h3⟩
  rw [hnx]
  have e : (((recsN (H.take i)).length + (x.length + 8) : Nat) : Int) = (recsN (H.take i)).length + (x.length + 8 : Nat) := by omega
  rw [e]
  exact ht
theorem InnerIs.put {w wr : World} {bl bd : Nat} {A : Option Addr} {H : List (List UInt8)} {synced : Int} {q i : Nat} (h : InnerIs w wr bl bd A H synced q i) (hne : (i : Int) ≠ synced)
    (hg : ErrType w) (hH : ∀ x ∈ H, x.length ≤ 60) (hl : H.length ≤ 60) (x : List UInt8) (hx : H[i]? = some x) (Ai : Option Addr) (ci : Nat) (hr : Reads w w.heap.size 1 Ai x.length (x.map bv)) :
    Calls Tryd.prog 21 #[.pointer (some ⟨bl, 0, none⟩), .slice Ai x.length ci] wr fun e w' => (∃ n : Int, e = .returned (.tuple #[.int .i64 n, .int .i64 0])) ∧ InnerIs w w' bl bd A H synced q (i + 1) := by
  obtain ⟨m, lo, h1, h2, h3⟩ := h
  exact put_key h1 h2 (fun a b => h3 a (by omega)) hg hH hl x hx Ai ci hr
theorem SyncIs.put {w wr : World} {bl bd : Nat} {A : Option Addr} {H : List (List UInt8)} {synced : Int} {q i : Nat} (h : SyncIs w wr bl bd A H i)
    (hg : ErrType w) (hH : ∀ x ∈ H, x.length ≤ 60) (hl : H.length ≤ 60) (x : List UInt8) (hx : H[i]? = some x) (Ai : Option Addr) (ci : Nat) (hr : Reads w w.heap.size 1 Ai x.length (x.map bv)) :
    Calls Tryd.prog 21 #[.pointer (some ⟨bl, 0, none⟩), .slice Ai x.length ci] wr fun e w' => (∃ n : Int, e = .returned (.tuple #[.int .i64 n, .int .i64 0])) ∧ InnerIs w w' bl bd A H synced q (i + 1) := by
  obtain ⟨m, h1, h2⟩ := h
  exact put_key h1 h2 (fun a b => by omega) hg hH hl x hx Ai ci hr
theorem InnerIs.at_ {w wr : World} {bl bd : Nat} {A : Option Addr} {H : List (List UInt8)} {synced : Int} {q i : Nat} (h : InnerIs w wr bl bd A H synced q i) {x : List UInt8} (hi : H[i]? = some x) : ∃ g off Ai ci, A = some ⟨g, off, none⟩ ∧ wr.cell? ⟨g, off + i, none⟩ = some (.slice Ai x.length ci) ∧ Reads w w.heap.size 1 Ai x.length (x.map bv) := by
  obtain ⟨m, lo, h1, h2, h3⟩ := h
  exact h1.at_ hi
theorem SyncIs.at_ {w wr : World} {bl bd : Nat} {A : Option Addr} {H : List (List UInt8)} {i : Nat} (h : SyncIs w wr bl bd A H i) {x : List UInt8} (hi : H[i]? = some x) : ∃ g off Ai ci, A = some ⟨g, off, none⟩ ∧ wr.cell? ⟨g, off + i, none⟩ = some (.slice Ai x.length ci) ∧ Reads w w.heap.size 1 Ai x.length (x.map bv) := by
  obtain ⟨m, h1, h2⟩ := h
  exact h1.at_ hi
/-- Behind a crash. -/
structure AfterIs (w wr : World) (bl bd : Nat) (A : Option Addr) (H : List (List UInt8)) (synced : Int) (q : Nat) (r : Nat) (t : List UInt8) (m : DM) (n : Int) : Prop where
  turn : Turn w wr bl bd m n A H
  le : r ≤ H.length
  least : (q : Int) ≤ synced → synced < H.length → synced ≤ r
  torn : firstL t = none
  files : m.files 7 = recsN (H.take r) ++ t
  fit : Fit m
  fit2 : Fit (m.opened 7 (recsN (H.take r)).length)
  files2 : (m.opened 7 (recsN (H.take r)).length).files 7 = recsN (H.take r)
  next : ∀ H2 : List (List UInt8), H2.take r = H.take r → Stand (m.opened 7 (recsN (H.take r)).length) H2 r r
theorem InnerIs.crash {w wr : World} {bl bd : Nat} {A : Option Addr} {H : List (List UInt8)} {synced : Int} {q : Nat} (h : InnerIs w wr bl bd A H synced q H.length) (hH : ∀ x ∈ H, x.length ≤ 60) (hl : H.length ≤ 60) (keep torn : Int) (hk : 0 ≤ keep) (ht : 0 ≤ torn) :
    Calls Tryd.prog 15 #[.pointer (some ⟨bd, 0, none⟩), .int .i64 keep, .int .i64 torn] wr fun e w' => e = .returned (.int .i64 0) ∧ ∃ r t m n, AfterIs w w' bl bd A H synced q r t m n := by
  obtain ⟨m, lo, h1, h2, h3⟩ := h
  obtain ⟨r, t, k1, k2, k3, k4, k5, k6, k7, k8⟩ := h2.crashed hH hl (Nat.le_refl _) keep torn hk ht
  exact (t_crash h1 (by rw [h2.room]; decide) keep torn hk ht (h2.hlen hl keep torn) (by have := h2.few; omega)).mono fun e w' ⟨he, hT⟩ => ⟨he, r, t, _, _, hT, k2, fun a b => by have := h3 a b; omega, k3, k4, k5, k6, k7, k8⟩
/-- Behind the opening anew. -/
structure OpenIs (w wr : World) (bl bd : Nat) (A : Option Addr) (H : List (List UInt8)) (synced : Int) (q : Nat) (r : Nat) (m : DM) : Prop where
  turn : Turn w wr bl bd m (recsN (H.take r)).length A H
  le : r ≤ H.length
  least : (q : Int) ≤ synced → synced < H.length → synced ≤ r
  fit : Fit m
  files : m.files 7 = recsN (H.take r)
  next : ∀ H2 : List (List UInt8), H2.take r = H.take r → Stand m H2 r r
theorem AfterIs.open {w wr : World} {bl bd : Nat} {A : Option Addr} {H : List (List UInt8)} {synced : Int} {q r : Nat} {t : List UInt8} {m : DM} {n : Int} (h : AfterIs w wr bl bd A H synced q r t m n) (hg : ErrType w) (hH : ∀ x ∈ H, x.length ≤ 60) :
    Calls Tryd.prog 20 #[.pointer (some ⟨bd, 0, none⟩), .int .i64 7] wr fun e w' => ∃ bl' m', e = .returned (.tuple #[.pointer (some ⟨bl', 0, none⟩), .int .i64 0]) ∧ OpenIs w w' bl' bd A H synced q r m' :=
  (t_open h.turn h.fit hg (H.take r) t (fun x hx => by have := hH x (List.mem_of_mem_take hx); omega) h.torn h.files).mono fun e w' ⟨bl', he, hT⟩ => ⟨bl', _, he, hT, h.le, h.least, h.fit2, h.files2, h.next⟩
theorem OpenIs.told {w wr : World} {bl bd : Nat} {A : Option Addr} {H : List (List UInt8)} {synced : Int} {q r : Nat} {m : DM} (h : OpenIs w wr bl bd A H synced q r m) (hH : ∀ x ∈ H, x.length ≤ 60) (hl : H.length ≤ 60) (cap : Nat) :
    Calls Tryd.prog 25 #[.pointer (some ⟨bl, 0, none⟩), .slice A H.length cap] wr fun e w' => e = .returned (.tuple #[.int .i64 r, .bool true]) ∧ OpenIs w w' bl bd A H synced q r m :=
  (t_told h.turn h.fit r h.le hH (by omega) cap h.files).mono fun e w' ⟨he, hT⟩ => ⟨he, hT, h.le, h.least, h.fit, h.files, h.next⟩
end Go.Proofs.YthmigmiojifnkaaDoor
