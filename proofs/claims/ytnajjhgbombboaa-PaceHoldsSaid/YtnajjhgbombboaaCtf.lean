/-
  Package control: Rows.
-/
import Derived.Test.YtnajjhgbombboaaCte
set_option linter.unusedVariables false
set_option linter.unusedSimpArgs false
set_option linter.unusedVariables false
set_option linter.unusedSimpArgs false
namespace Go.Proofs.Ytnajjhgbombboaa
open Go.RowKit

theorem ownsRow_bel {w w' : World} {base : Nat} {e : TypeId} {size : Nat} {v : Value} {n : Nat} {xs : List Value} (h : w.ownsRow base e size v n xs) (hb : Bel w w') : w'.ownsRow base e size v n xs := by
  refine ⟨h.1, ?_⟩
  rcases h.2 with h2 | ⟨g, cap, cur, hv, hg, hh, r⟩
  · exact .inl h2
  · exact .inr ⟨g, cap, cur, hv, hg, (hb.block g (Array.getElem?_eq_some_iff.1 hh).1).trans hh, r⟩
theorem Reads.belH {w w' : World} {A : Option Addr} {n size : Nat} {xs : List Value} (h : Reads w w.heap.size size A n xs) (hb : Bel w w') : Reads w' w'.heap.size size A n xs := (h.keep fun _ hp => hb.cell hp).more hb.size
theorem row_any {w : World} {b e z n : Nat} {v : Value} {xs : List Value} (h : w.ownsRow b e z v n xs) : ∃ A c, v = .slice A n c := by
  rcases h.2 with ⟨rfl, rfl⟩ | ⟨g, cap, cur, rfl, _⟩
  · exact ⟨none, 0, rfl⟩
  · exact ⟨_, cap, rfl⟩
def bt8 (bt : Int) : ByteArray := ⟨(beN bt.toNat 8).toArray⟩
def RowIs (V : World) (u : Value) (k s : ByteArray) : Prop := ∃ b, u = .slice (some ⟨b, 0, none⟩) 2 2 ∧ Blk V b 84 (rowC k s)
def RowsOk (V : World) (us : List Value) (bt : Int) : Prop := ∀ (j : Nat) (u : Value), us[j]? = some u → ∃ k s, RowIs V u k s ∧ (j = 0 → k = kBeat ∧ s = bt8 bt) ∧ (j ≠ 0 → k ≠ kBeat)
theorem RowsOk.nil (V : World) (bt : Int) : RowsOk V [] bt := fun j u h => by simp at h
theorem RowsOk.bel {V V' : World} {us : List Value} {bt : Int} (h : RowsOk V us bt) (hb : Bel V V') : RowsOk V' us bt := fun j u hu => by
  obtain ⟨k, s, ⟨b, e, hB⟩, h2⟩ := h j u hu
  exact ⟨k, s, ⟨b, e, hB.below hb hB.lt⟩, h2⟩
theorem RowsOk.grown {V V' V0 : World} {us xs : List Value} {bt : Int} {B n : Nat} {v : Value} (h : RowsOk V us bt) (hown : V.ownsRow B 50 1 v n xs) (hg : V.grownBy V' v.ownBlock) : RowsOk V' us bt := fun j u hu => by
  obtain ⟨k, s, ⟨b, e, hB⟩, h2⟩ := h j u hu
  exact ⟨k, s, ⟨b, e, hB.grown hg fun e => own_blk_ne hown hB (by decide) e.symm⟩, h2⟩
theorem RowsOk.push {V : World} {us : List Value} {bt : Int} {u : Value} {k s : ByteArray} (h : RowsOk V us bt) (hr : RowIs V u k s) (h0 : us.length = 0 → k = kBeat ∧ s = bt8 bt) (h1 : us.length ≠ 0 → k ≠ kBeat) : RowsOk V (us ++ [u]) bt := fun j x hx => by
  rcases Nat.lt_or_ge j us.length with hj | hj
  · rw [List.getElem?_append_left hj] at hx
    exact h j x hx
  · rw [List.getElem?_append_right hj] at hx
    have hj0 : j - us.length = 0 := by
      have := (List.getElem?_eq_some_iff.1 hx).1
      simp at this
      exact this
    rw [hj0] at hx
    simp at hx
    subst hx
    have hjl : j = us.length := by omega
    subst hjl
    exact ⟨k, s, hr, h0, h1⟩
theorem infoVals : (Try.prog.info? 50).map (fun i => (i.zero, i.size, i.bytes)) = some (some (.slice none 0 0), 1, 24) := by kernel_rfl
def ctKey : Nat → ByteArray
  | 0 => kBeat
  | 1 => kCursor
  | 2 => kFull
  | 3 => kPhase
  | _ => kPos
def ctLay : Nat → Nat
  | 0 => 29
  | 1 => 33
  | 2 => 35
  | 3 => 38
  | _ => 40
def ctRead : Nat → Nat
  | 0 => 31
  | 1 => 34
  | 2 => 36
  | 3 => 39
  | _ => 41
theorem ctLook {k : Nat} (hk : k < 5) : ∃ m : Bool, ∀ (V : World) (b : Nat), V.heap[b]? = some (.map ptMap 5) → (Instr.lookup 69 (.map (some b)) (.string (ctKey k)) false).run Try.prog V = .ok (.agg #[.func (.func (ctLay k)) #[] #[], .func (.func (ctRead k)) #[] #[], .bool m]) V := by
  match k, hk with
  | 0, _ => exact ⟨_, fun V b hb => ctLookBeat hb⟩
  | 1, _ => exact ⟨_, fun V b hb => ctLookCursor hb⟩
  | 2, _ => exact ⟨_, fun V b hb => ctLookFull hb⟩
  | 3, _ => exact ⟨_, fun V b hb => ctLookPhase hb⟩
  | 4, _ => exact ⟨_, fun V b hb => ctLookPos hb⟩
theorem ctLay_any {k : Nat} (hk : k < 5) (p : Prg) (A : Option Addr) (n c : Nat) (hf : p.fine) (w : World) : Calls Try.prog (ctLay k) #[p.v A n c] w fun e w' => ∃ s b, e = .returned (.tuple #[.string s, .bool b]) ∧ (k = 0 → s = bt8 p.bt ∧ b = true) ∧ Bel w w' := by
  match k, hk with
  | 0, _ => exact (ctP1_any p A n c hf w).mono fun e w' h => ⟨_, _, h.1, fun _ => ⟨rfl, rfl⟩, h.2⟩
  | 1, _ => exact (ctP3_any p A n c w).mono fun e w' h => ⟨_, _, h.1, (fun h => absurd h (by decide)), h.2⟩
  | 2, _ => exact (ctP5_any p A n c w).mono fun e w' h => ⟨_, _, h.1, (fun h => absurd h (by decide)), h.2⟩
  | 3, _ => exact (ctP7_any p A n c hf w).mono fun e w' ⟨s, h⟩ => ⟨_, _, h.1, (fun h => absurd h (by decide)), h.2⟩
  | 4, _ => exact (ctP9_any p A n c hf w).mono fun e w' ⟨s, h⟩ => ⟨_, _, h.1, (fun h => absurd h (by decide)), h.2⟩
theorem ctKey_ne {k : Nat} (hk : k < 5) (h0 : k ≠ 0) : ctKey k ≠ kBeat := by
  match k, hk with
  | 0, _ => exact absurd rfl h0
  | 1, _ => decide
  | 2, _ => decide
  | 3, _ => decide
  | 4, _ => decide
theorem tick_ne (x : ByteArray) : ((⟨#[126]⟩ : ByteArray) ++ x) ≠ kBeat := by
  intro h
  have := congrArg (fun b : ByteArray => b.data.toList.head?) h
  simp [kBeat] at this
theorem keys_at {V : World} {A : Option Addr} {k : Nat} (hk : k < 5) (h : Reads V V.heap.size 1 A 5 [.string kBeat, .string kCursor, .string kFull, .string kPhase, .string kPos]) : ∃ ad, A = some ad ∧ ad.block < V.heap.size ∧ V.cell? (ad.add k) = some (.string (ctKey k)) := by
  obtain ⟨ad, u, rfl, hb, hu, hc⟩ := h.at_ hk
  refine ⟨ad, rfl, hb, hc.trans (hu.symm.trans ?_)⟩
  match k, hk with
  | 0, _ => rfl
  | 1, _ => rfl
  | 2, _ => rfl
  | 3, _ => rfl
  | 4, _ => rfl
theorem ctField (a b : Nat) (m : Bool) (V : World) : (Instr.field 78 (.agg #[.func (.func a) #[] #[], .func (.func b) #[] #[], .bool m]) 0).run Try.prog V = .ok (.func (.func a) #[] #[]) V := by kernel_rfl
theorem ctLay_enters {k : Nat} (hk : k < 5) : ∀ args w, (callFunc (ctLay k) args).run Try.prog w = .ok (.enter (ctLay k) args) w := by
  match k, hk with
  | 0, _ => exact enters_of Try.func29 (by kernel_rfl) rfl
  | 1, _ => exact enters_of Try.func33 (by kernel_rfl) rfl
  | 2, _ => exact enters_of Try.func35 (by kernel_rfl) rfl
  | 3, _ => exact enters_of Try.func38 (by kernel_rfl) rfl
  | 4, _ => exact enters_of Try.func40 (by kernel_rfl) rfl
def CtInv (w3 : World) (bt : Int) (us : List Value) (v : Value) (V : World) : Prop := V.ownsRow w3.heap.size 50 1 v us.length us ∧ RowsOk V us bt ∧ Bel w3 V
def GivesRows (p : Prg) (e : Ending) (w' : World) : Prop := ∃ us A c, e = .returned (.tuple #[.slice A us.length c, .int .i64 0]) ∧ Reads w' w'.heap.size 1 A us.length us ∧ 1 ≤ us.length ∧ us.length ≤ 25 ∧ RowsOk w' us p.bt ∧ p.fine
set_option maxRecDepth 100000 in
set_option maxHeartbeats 4000000 in
theorem ctRows_any (p : Prg) (ks : List ByteArray) (A : Option Addr) (c : Nat) (w : World) (hr : Reads w w.heap.size 1 A ks.length (ks.map .string)) (hn : ks.length ≤ 20) :
    Calls Try.prog 11 #[p.v A ks.length c] w fun e w' => ((∃ j : Int, j ≠ 0 ∧ e = .returned (.tuple #[.slice none 0 0, .int .i64 j])) ∨ GivesRows p e w') ∧ Bel w w' := by
  obtain ⟨i0, hi0, hz0, hz1, hz2⟩ := info_parts infoVals
  obtain ⟨ph, cu, fu, sg, pt, bt⟩ := p
  have HR := Lib.hid hr
  have hnI : (ks.length : Int) ≤ 20 := by omega
  unfold GivesRows
  have HP : Hid (Prg.v ⟨ph, cu, fu, sg, pt, bt⟩ A ks.length c = .agg #[.int .i64 ph, .string cu, .bool fu, .int .i64 sg, .int .i64 pt, .int .i64 bt, .slice A ks.length c]) := Lib.hid rfl
  rw [HP.out]
  clear hr
  go_enter Try.func11, Try.ntmps11
  go_wp2_with fail
  rw [← HP.out]
  refine (ctCheck_any ⟨ph, cu, fu, sg, pt, bt⟩ ks A c _ (HR.out.belH ((Bel.refl w).alloc _)) hn).mono ?_
  rw [HP.out]
  rintro e1 w1 ⟨j, rfl, hfine, hb1⟩
  have hBk1 : Blk w1 w.heap.size 28 #[.int .i64 ph, .string cu, .bool fu, .int .i64 sg, .int .i64 pt, .int .i64 bt, .slice A ks.length c] := (Blk.new w _ _).below hb1 (by simp)
  have hw1 : Bel w w1 := ((Bel.refl w).alloc _).then_ hb1
  clear hb1
  by_cases hj : j = 0
  · subst hj
    have HF := Lib.hid (hfine rfl).1
    have HS := Lib.hid (hfine rfl).2
    clear hfine
    go_wp2_with fail
    refine (ctParts_at _).mono ?_
    rintro e2 w2 ⟨rfl, rfl⟩
    go_wp2_with fail
    refine (ctKeys_any _ _).mono ?_
    rintro e3 w3 ⟨rfl, rfl⟩
    go_wp2_with fail
    refine (ctSorted_at (w := w1.alloc (.map ptMap 5)) (World.alloc_heap_new _ _) (by simp)).mono ?_
    rintro e4 w4 ⟨A4, c4, rfl, hr4, hb4⟩
    have hm4 : w4.heap[w1.heap.size]? = some (.map ptMap 5) := (hb4.block _ (by simp; omega)).trans ((Below.heap_alloc _ _ _ (by simp)).trans (World.alloc_heap_new _ _))
    have hBk4 : Blk w4 w.heap.size 28 #[.int .i64 ph, .string cu, .bool fu, .int .i64 sg, .int .i64 pt, .int .i64 bt, .slice A ks.length c] := ((hBk1.alloc _).alloc _).below hb4 (by have := hBk1.lt; simp; omega)
    have hw4 : Bel w w4 := ((hw1.alloc _).alloc _).then_ hb4
    clear hb4
    generalize w1.heap.size = bm at *
    have hbm : bm < w4.heap.size := (Array.getElem?_eq_some_iff.1 hm4).1
    go_wp2
    go_loopw [2, 21] (fun v i wr => ∃ (k : Nat) (us : List Value), k ≤ 5 ∧ i = .int .i64 k ∧ us.length ≤ k ∧ (1 ≤ k → 1 ≤ us.length) ∧ Hid (CtInv w4 bt us v wr)) (fun _ i _ => 5 - (intOf i).toNat)
    case atStart => exact ⟨0, [], by omega, rfl, by simp, by omega, ⟨⟨rfl, .inl ⟨rfl, rfl⟩⟩, RowsOk.nil _ _, Bel.refl _⟩⟩
    case round =>
      obtain ⟨k, us, hk, rfl, hlu, h1, HI⟩ := hrel
      have hBkr : Blk wr w.heap.size 28 #[.int .i64 ph, .string cu, .bool fu, .int .i64 sg, .int .i64 pt, .int .i64 bt, .slice A ks.length c] := hBk4.below HI.out.2.2 hBk4.lt
      have q0 := hBkr.cell 0
      have q1 := hBkr.cell 1
      have q2 := hBkr.cell 2
      have q3 := hBkr.cell 3
      have q4 := hBkr.cell 4
      have q5 := hBkr.cell 5
      have q6 := hBkr.cell 6
      simp only [List.getElem?_toArray, List.getElem?_cons_zero, List.getElem?_cons_succ] at q0 q1 q2 q3 q4 q5 q6
      by_cases hlt : k < 5
      · obtain ⟨m, hlook⟩ := ctLook hlt
        obtain ⟨ad, rfl, hadb, hcell⟩ := keys_at hlt hr4
        have hcr : wr.cell? (ad.add k) = some (.string (ctKey k)) := (HI.out.2.2.cell (p := ad.add k) (by rw [block_of_add]; exact hadb)).trans hcell
        have hlk := hlook wr bm ((HI.out.2.2.block bm hbm).trans hm4)
        have HL := Lib.hid (ctLay_any hlt ⟨ph, cu, fu, sg, pt, bt⟩ A ks.length c HF.out wr)
        rw [HP.out] at HL
        have eg := ctLay_enters hlt
        have hfl := ctField (ctLay k) (ctRead k) m wr
        clear hlook hcell
        go_wp2_with fail
        refine HL.out.mono ?_
        rintro e5 w5 ⟨s, b, rfl, h0, hb5⟩
        have HI5 : Hid (CtInv w4 bt us u2 w5) := ⟨ownsRow_bel HI.out.1 hb5, HI.out.2.1.bel hb5, HI.out.2.2.then_ hb5⟩
        clear HI hBkr hcr hlk HL hfl eg q0 q1 q2 q3 q4 q5 q6 hb5
        cases b with
        | false =>
          have hk0 : 1 ≤ k := by
            rcases Nat.eq_zero_or_pos k with e | e
            · have := (h0 e).2; cases this
            · exact e
          clear h0
          go_wp2
          go_roundw
          case rel => exact ⟨k + 1, us, by omega, by go_num, by omega, fun _ => h1 hk0, HI5⟩
          case measure => simp [intOf]; omega
        | true =>
          go_wp2_with fail
          refine (ctRow_any _ _ _).mono ?_
          rintro e6 w6 ⟨b6, rfl, hb6, hBk6, hbel6⟩
          have HI6 : Hid (CtInv w4 bt us u2 w6) := ⟨ownsRow_bel HI5.out.1 hbel6, HI5.out.2.1.bel hbel6, HI5.out.2.2.then_ hbel6⟩
          have hsz6 : w4.heap.size ≤ w6.heap.size := HI6.out.2.2.size
          have HB6 := Lib.hid hBk6
          clear HI5 hBk6 hbel6
          go_wp2_with (at_builtin; refine wpList_append_any _ rfl (.tmp 35) (.tmp 39) _ rfl w4.heap.size 50 i0 _ 1 24 Try.underlying44 hi0 hz0 hz1 hz2 rfl (by omega) u2 us.length us rfl ?c1 (w6.heap.size + 1) (some ⟨w6.heap.size, 0, none⟩) 1 1 [.slice (some ⟨b6, 0, none⟩) 2 2] rfl ?c2 ?c3 ?c4 ?c5 ?c6 ?_)
          case c1 => exact HI6.out.1.alloc _
          case c2 => exact reads1 w6 _ _
          case c3 => simp [Value.oneCell']
          case c4 => unfold maxLen; omega
          case c5 => omega
          case c6 => simp; omega
          intro v7 w7 hown7 hg7 hat7
          have hB7 : Blk w7 b6 84 (rowC (ctKey k) s) := (HB6.out.alloc _).grown hg7 fun e => own_blk_ne HI6.out.1 HB6.out (by decide) e.symm
          have hO7 : RowsOk w7 us bt := RowsOk.grown (V0 := w7) (HI6.out.2.1.bel ((Bel.refl w6).alloc _)) (HI6.out.1.alloc _) hg7
          have hP7 : RowsOk w7 (us ++ [.slice (some ⟨b6, 0, none⟩) 2 2]) bt := hO7.push ⟨b6, rfl, hB7⟩ (fun e => by
              have hk0 : k = 0 := by
                rcases Nat.eq_zero_or_pos k with e' | e'
                · exact e'
                · have := h1 e'; omega
              subst hk0
              exact ⟨rfl, (h0 rfl).1⟩) (fun e => ctKey_ne hlt (by omega))
          have hl7 : (us ++ [Value.slice (some ⟨b6, 0, none⟩) 2 2]).length = us.length + 1 := by simp
          have HI7 : Hid (CtInv w4 bt (us ++ [.slice (some ⟨b6, 0, none⟩) 2 2]) v7 w7) := ⟨by rw [hl7]; exact hown7, hP7, HI6.out.2.2.trans (((Below.refl _ w6).alloc hsz6 _).trans (Below.grown (Below.refl _ _) hg7 (by simp; omega) (fun j e => (HI6.out.1.lt j e).1)))⟩
          clear HI6 HB6 hown7 hg7 hat7 hB7 hO7 hP7 h0
          go_wp2
          go_roundw
          case rel => exact ⟨k + 1, _, by omega, by go_num, by rw [hl7]; omega, fun _ => by rw [hl7]; omega, HI7⟩
          case measure => simp [intOf]; omega
      · have hk5 : k = 5 := by omega
        subst hk5
        have hu1 : 1 ≤ us.length := h1 (by omega)
        have hu5 : us.length ≤ 5 := hlu
        clear h1 hlu hlt hk q0 q1 q2 q3 q4 q5
        go_wp2
        go_loopw [2, 45] (fun v i wr => ∃ (k : Nat) (us : List Value), k ≤ ks.length ∧ i = .int .i64 k ∧ us.length ≤ 5 + k ∧ 1 ≤ us.length ∧ Hid (CtInv w4 bt us v wr)) (fun _ i _ => ks.length - (intOf i).toNat)
        case atStart => exact ⟨0, us, by omega, rfl, by omega, hu1, HI⟩
        case round =>
          obtain ⟨k, us2, hk, rfl, hl5, h1, HI2⟩ := hrel
          by_cases hlt : k < ks.length
          · obtain ⟨x, hx⟩ : ∃ x, ks[k]? = some x := ⟨_, List.getElem?_eq_getElem hlt⟩
            obtain ⟨ad, u, rfl, hbl, hu, hcell⟩ := (HR.out.keep (w' := wr) fun p hp => (hw4.then_ HI2.out.2.2).cell hp).at_ hlt
            rw [List.getElem?_map, hx] at hu
            simp only [Option.map_some, Option.some.injEq] at hu
            subst hu
            have hxs : x.size ≤ 190 := HS.out x (List.mem_of_getElem? hx)
            have hcat : ¬ 9223372036854775807 < 1 + x.size := by omega
            clear hx
            go_wp2_with fail
            refine (ctRow_any _ _ _).mono ?_
            rintro e6 w6 ⟨b6, rfl, hb6, hBk6, hbel6⟩
            have HI6 : Hid (CtInv w4 bt us2 u2 w6) := ⟨ownsRow_bel HI2.out.1 hbel6, HI2.out.2.1.bel hbel6, HI2.out.2.2.then_ hbel6⟩
            have hsz6 : w4.heap.size ≤ w6.heap.size := HI6.out.2.2.size
            have HB6 := Lib.hid hBk6
            clear HI2 hBk6 hbel6 hcell
            go_wp2_with (at_builtin; refine wpList_append_any _ rfl (.tmp 49) (.tmp 53) _ rfl w4.heap.size 50 i0 _ 1 24 Try.underlying44 hi0 hz0 hz1 hz2 rfl (by omega) u2 us2.length us2 rfl ?c1 (w6.heap.size + 1) (some ⟨w6.heap.size, 0, none⟩) 1 1 [.slice (some ⟨b6, 0, none⟩) 2 2] rfl ?c2 ?c3 ?c4 ?c5 ?c6 ?_)
            case c1 => exact HI6.out.1.alloc _
            case c2 => exact reads1 w6 _ _
            case c3 => simp [Value.oneCell']
            case c4 => unfold maxLen; omega
            case c5 => omega
            case c6 => simp; omega
            intro v7 w7 hown7 hg7 hat7
            have hB7 : Blk w7 b6 84 (rowC ((⟨#[126]⟩ : ByteArray) ++ x) ⟨#[]⟩) := (HB6.out.alloc _).grown hg7 fun e => own_blk_ne HI6.out.1 HB6.out (by decide) e.symm
            have hO7 : RowsOk w7 us2 bt := RowsOk.grown (V0 := w7) (HI6.out.2.1.bel ((Bel.refl w6).alloc _)) (HI6.out.1.alloc _) hg7
            have hP7 : RowsOk w7 (us2 ++ [.slice (some ⟨b6, 0, none⟩) 2 2]) bt := hO7.push ⟨b6, rfl, hB7⟩ (fun e => by omega) (fun _ => tick_ne x)
            have hl7 : (us2 ++ [Value.slice (some ⟨b6, 0, none⟩) 2 2]).length = us2.length + 1 := by simp
            have HI7 : Hid (CtInv w4 bt (us2 ++ [.slice (some ⟨b6, 0, none⟩) 2 2]) v7 w7) := ⟨by rw [hl7]; exact hown7, hP7, HI6.out.2.2.trans (((Below.refl _ w6).alloc hsz6 _).trans (Below.grown (Below.refl _ _) hg7 (by simp; omega) (fun j e => (HI6.out.1.lt j e).1)))⟩
            clear HI6 HB6 hown7 hg7 hat7 hB7 hO7 hP7
            go_wp2
            refine ⟨?_, ?measure⟩
            repeat apply Exists.intro
            refine ⟨?rel, rfl⟩
            case rel => exact ⟨k + 1, _, by omega, by go_num, by rw [hl7]; omega, by rw [hl7]; omega, HI7⟩
            case measure => simp [intOf]; omega
          · obtain ⟨A9, c9, rfl⟩ := row_any HI2.out.1
            have HE := Lib.hid (Reads.of_own HI2.out.1)
            go_wp2
            go_ret2
            exact ⟨.inr ⟨us2, A9, c9, rfl, HE.out, h1, by omega, HI2.out.2.1, HF.out⟩, hw4.then_ HI2.out.2.2⟩
  · have hjn : (j == 0) = false := by simp; exact hj
    have hjm : (j != 0) = true := by simp; exact hj
    go_wp2
    go_ret2
    exact ⟨.inl ⟨j, hj, rfl⟩, by (repeat (first | exact Below.refl _ _ | assumption | exact Bel.refl _ | refine Bel.alloc ?_ _ | refine Bel.drew ?_ | refine Bel.drewN ?_ _ | refine Bel.then_ ?_ (by assumption) | refine Bel.setCell ?_ (by first | (simp; done) | (simp; omega)) _))⟩
end Go.Proofs.Ytnajjhgbombboaa
