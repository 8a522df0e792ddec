/-
  The texts of the schema and of the codec, one behind the other: part 4.
-/
import Derived.Test.YtkklmflclmgjeaaGreatDoorP3
import Derived.Defers
import Derived.Recover
import Derived.ProofKit
import Derived.OpenShut
import Derived.Carry
import Derived.JoinedCond
import Derived.Lib.SmallJoins
import Derived.Deep.Slices
import Derived.Deep.Fields
/-
  Schema: the chapter's rows.
-/
set_option linter.unusedVariables false
set_option linter.unusedSimpArgs false
set_option linter.unusedVariables false
set_option linter.unusedSimpArgs false
namespace Go.Proofs.YtkklmflclmgjeaaGreatDoor
open Go.RowKit Go.Shelf Go.Lib
attribute [local go_sem] Oper.semAt_some

theorem mnum_any (a : Int) (w : World) : Calls Tryz.prog 17 #[.int .i64 a] w fun e w' => e = .returned (.int .i64 a) ∧ w = w' := by
  go_enter Tryz.func17, Tryz.ntmps17
  go_wp2
  go_ret
  exact ⟨rfl, rfl⟩
theorem mof_any (a : Int) (w : World) : Calls Tryz.prog 50 #[.int .i64 a] w fun e w' => e = .returned (Val.v ⟨1, a, 0, ⟨#[]⟩⟩) ∧ Bel w w' := by
  go_enter Tryz.func50, Tryz.ntmps50
  go_wp2
  refine bodyPost_ret (v := _) (by simp [results, Tryz.results50, go_sem]; rfl) rfl ⟨rfl, by (repeat (first | exact Below.refl _ _ | assumption | exact Bel.refl _ | refine Bel.alloc ?_ _ | refine Bel.drew ?_ | refine Bel.drewN ?_ _ | refine Bel.then_ ?_ (by assumption) | refine Bel.setCell ?_ (by first | (simp; done) | (simp; omega)) _))⟩
theorem mbytes_any (s : ByteArray) (w : World) : Calls Tryz.prog 51 #[.string s] w fun e w' => e = .returned (Val.v ⟨4, 0, 0, s⟩) ∧ Bel w w' := by
  go_enter Tryz.func51, Tryz.ntmps51
  go_wp2
  refine bodyPost_ret (v := _) (by simp [results, Tryz.results51, go_sem]; rfl) rfl ⟨rfl, by (repeat (first | exact Below.refl _ _ | assumption | exact Bel.refl _ | refine Bel.alloc ?_ _ | refine Bel.drew ?_ | refine Bel.drewN ?_ _ | refine Bel.then_ ?_ (by assumption) | refine Bel.setCell ?_ (by first | (simp; done) | (simp; omega)) _))⟩
theorem scPlaceC_any (o : Col) (nm : ByteArray) (bc : Nat) (w : World) (h : w.cell? ⟨bc, 0, none⟩ = some (.string nm)) : Calls Tryz.prog 65 #[o.v, .pointer (some ⟨bc, 0, none⟩)] w fun e w' => e = .returned (.bool (decide (o.name = nm))) ∧ Bel w w' := by
  obtain ⟨name, t, z, null⟩ := o
  have hlt := World.block_lt_of_cell? (w := w) (a := ⟨bc, 0, none⟩) h
  have hne : w.heap.size ≠ bc := by simp at hlt; omega
  unfold Col.v
  dsimp only
  go_enter Tryz.func65, Tryz.ntmps65
  go_wp2
  go_ret
  exact ⟨congrArg (fun x => Ending.returned (Value.bool x)) (str_beq name nm), by (repeat (first | exact Below.refl _ _ | assumption | exact Bel.refl _ | refine Bel.alloc ?_ _ | refine Bel.drew ?_ | refine Bel.drewN ?_ _ | refine Bel.then_ ?_ (by assumption) | refine Bel.setCell ?_ (by first | (simp; done) | (simp; omega)) _))⟩
/-- The place of a column of this name. -/
def PlaceIs (cols : List Col) (nm : ByteArray) (i : Int) : Prop := (i = -1 ∧ cols.any (fun o => decide (o.name = nm)) = false) ∨ ∃ (k : Nat) (x : Col), i = k ∧ cols[k]? = some x ∧ x.name = nm ∧ (cols.take k).any (fun o => decide (o.name = nm)) = false
set_option maxHeartbeats 2000000 in
theorem slIndexPlace_any (g : Nat) (lb : Array Value) (eg : ∀ args w, (callFunc g args).run Tryz.prog w = .ok (.enter g args) w) (nm : ByteArray) (v : Value) (l : List Col) (w : World) (h : ColsAt w v l)
    (hp : ∀ W, Bel w W → ∀ x ∈ l, Calls Tryz.prog g (#[x.v] ++ lb) W fun e w' => e = .returned (.bool (decide (x.name = nm))) ∧ Bel W w') :
    Calls Tryz.prog 64 #[v, .func (.func g) #[] lb] w fun e w' => (∃ i : Int, e = .returned (.int .i64 i) ∧ PlaceIs l nm i) ∧ Bel w w' := by
  have HV := Lib.hid h
  obtain ⟨A, c, rfl, hcl, hm, hr⟩ := h
  have HP := Lib.hid hp
  have hlI : (l.length : Int) ≤ 9223372036854775807 := by unfold maxLen at hm; omega
  have HR := Lib.hid hr
  clear hr hm hp
  go_enter Tryz.func64, Tryz.ntmps64
  go_wp2
  go_loopw [8] (fun i wr => ∃ k : Nat, k ≤ l.length ∧ i = .int .i64 k ∧ Hid (Bel w wr) ∧ Hid ((l.take k).any (fun o => decide (o.name = nm)) = false)) (fun i _ => l.length - (intOf i).toNat)
  case atStart => exact ⟨0, Nat.zero_le _, rfl, Bel.refl w, by show _ = _; simp⟩
  case round =>
    obtain ⟨k, hk, rfl, HB, HT⟩ := hrel
    by_cases hlt : k < l.length
    · obtain ⟨y, hy⟩ : ∃ y, l[k]? = some y := ⟨_, List.getElem?_eq_getElem hlt⟩
      obtain ⟨b, off, rfl, hi⟩ := HR.out (by omega)
      obtain ⟨q0, q1, q2, q3⟩ := hi k y hy
      have hc0 := HB.out.c q0
      have hc1 := HB.out.c q1
      have hc2 := HB.out.c q2
      have hc3 := HB.out.c q3
      have hkI : (k : Int) < l.length := by omega
      have hmem : y ∈ l := List.mem_of_getElem? hy
      have HC := Lib.hid (HP.out wr HB.out y hmem)
      have HNX : Hid (¬ y.name = nm → (l.take (k + 1)).any (fun o => decide (o.name = nm)) = false) := fun e => by
        rw [List.take_add_one, hy, List.any_append, HT.out]
        simp [e]
      have HYES : Hid (y.name = nm → PlaceIs l nm k) := fun e => .inr ⟨k, y, rfl, hy, e, HT.out⟩
      clear hi hy hmem q0 q1 q2 q3
      by_cases hpy : y.name = nm
      · have hd := Lib.hid (HYES.out hpy)
        rw [decide_eq_true hpy] at HC
        clear hpy HNX
        go_wp2_with (go_at_fn g; refine HC.out.mono ?_; rintro e w4 ⟨rfl, hb4⟩)
        go_ret
        exact ⟨⟨(k : Int), rfl, hd.out⟩, HB.out.then_ hb4⟩
      · have hd := Lib.hid (HNX.out hpy)
        rw [decide_eq_false hpy] at HC
        clear hpy HYES
        go_wp2_with (go_at_fn g; refine HC.out.mono ?_; rintro e w4 ⟨rfl, hb4⟩)
        go_roundw
        case rel => exact ⟨k + 1, by omega, by go_num, HB.out.then_ hb4, hd.out⟩
        case measure => simp [intOf]; omega
    · obtain rfl : k = l.length := by omega
      have HN : Hid (PlaceIs l nm (-1)) := .inl ⟨rfl, by have := HT.out; rwa [List.take_length] at this⟩
      clear HT hlt hk
      go_wp2
      go_ret
      exact ⟨⟨-1, rfl, HN.out⟩, HB.out⟩
theorem PlaceIs.lo {cols : List Col} {nm : ByteArray} {i : Int} (h : PlaceIs cols nm i) : -1 ≤ i := by
  rcases h with ⟨rfl, -⟩ | ⟨k, x, rfl, -⟩ <;> omega
set_option maxRecDepth 100000 in
theorem scPlace_any (vc vk vu : Value) (cols : List Col) (nm : ByteArray) (w : World) (h : ColsAt w vc cols) : Calls Tryz.prog 29 #[.agg #[vc, vk, vu], .string nm] w fun e w' => (∃ i : Int, e = .returned (.tuple #[.int .i64 (if 0 ≤ i then i else 0), .bool (decide (0 ≤ i))]) ∧ PlaceIs cols nm i) ∧ Bel w w' := by
  have eg : ∀ args w, (callFunc 65 args).run Tryz.prog w = .ok (.enter 65 args) w := enters_of Tryz.func65 (by kernel_rfl) rfl
  have HI := Lib.hid (fun V (hb : Bel w V) (bn : Nat) (hn : V.cell? ⟨bn, 0, none⟩ = some (.string nm)) => slIndexPlace_any 65 #[.pointer (some ⟨bn, 0, none⟩)] eg nm vc cols V (h.bel hb) (fun W hW x hx => scPlaceC_any x nm bn W (hW.c hn)))
  clear h
  go_enter Tryz.func29, Tryz.ntmps29
  go_wp2_with fail
  refine (HI.out _ (((Bel.refl w).alloc _).alloc _) _ (by go_simp)).mono ?_
  rintro e w' ⟨⟨i, rfl, hi⟩, hb⟩
  have HP := Lib.hid hi
  have HB := Lib.hid ((((Bel.refl w).alloc _).alloc _).then_ hb)
  clear hb HI
  rcases hi with ⟨rfl, -⟩ | ⟨k, x, rfl, -⟩
  · go_wp2
    go_ret2
    exact ⟨⟨-1, rfl, HP.out⟩, HB.out⟩
  · have h0 : (0 : Int) ≤ k := by omega
    go_wp2
    all_goals
      go_ret2
      refine ⟨⟨(k : Int), ?_, HP.out⟩, HB.out⟩
      rw [if_pos h0, decide_eq_true h0]
      first | rfl | (congr 1; simp; omega)
end Go.Proofs.YtkklmflclmgjeaaGreatDoor

/-
  The codec: Encode.
-/
set_option linter.unusedVariables false
set_option linter.unusedSimpArgs false
set_option linter.unusedVariables false
set_option linter.unusedSimpArgs false
namespace Go.Proofs.YtkklmflclmgjeaaGreatDoor
open Go.RowKit Go.Shelf Go.Lib
attribute [local go_sem] Oper.semAt_some

/-- The world gets a name. -/
theorem wp_name {P : Program} {c : Code} {Q : Exit → Act → World → Prop} {a : Act} {w : World} (h : ∀ V, V = w → c.wp P Q a V) : c.wp P Q a w := h w rfl
theorem encRow_take : ∀ {cols : List Col} {l : List Val} {k : Nat} {c : Col} {x : Val}, cols[k]? = some c → l[k]? = some x → encRow (cols.take (k + 1)) (l.take (k + 1)) = encRow (cols.take k) (l.take k) ++ encVal c x
  | [], l, k, c, x, h, _ => by simp at h
  | c :: cols, [], k, _, _, _, h => by simp at h
  | c :: cols, x :: l, 0, _, _, hc, hx => by
    simp at hc hx
    subst hc hx
    show encVal c x ++ encRow [] [] = [] ++ encVal c x
    simp [encRow]
  | c :: cols, x :: l, k + 1, c', x', hc, hx => by
    have := encRow_take (cols := cols) (l := l) (k := k) (by simpa using hc) (by simpa using hx)
    show encVal c x ++ encRow (cols.take (k + 1)) (l.take (k + 1)) = encVal c x ++ encRow (cols.take k) (l.take k) ++ encVal c' x'
    rw [this, List.append_assoc]
theorem encBody_len {c : Col} {x : Val} (hf : fitsI c x = 0) : (encBody c x).length ≤ 220 := by
  obtain ⟨hr, hk, -⟩ := fits_parts hf
  obtain ⟨-, -, -, -, hsz⟩ := check_parts hk
  obtain ⟨ht1, ht4, -, hzz⟩ := right_parts hr
  unfold encBody
  by_cases t1 : c.t = 1
  · have hz := size_num (.inl t1) hzz
    rw [if_pos t1, beN_length]; omega
  · by_cases t2 : c.t = 2
    · have hz := size_num (.inr t2) hzz
      rw [if_neg t1, if_pos t2, beN_length]; omega
    · by_cases t3 : c.t = 3
      · rw [if_neg t1, if_neg t2, if_pos t3]; simp
      · rw [if_neg t1, if_neg t2, if_neg t3]
        have hbl : x.b.data.toList.length = x.b.size := rfl
        unfold textB
        rw [List.length_append, numB_length, hbl]
        have := needN_8 (n := x.b.size) (by omega)
        omega
theorem encVal_len {c : Col} {x : Val} (hf : fitsI c x = 0) : (encVal c x).length ≤ 221 := by
  unfold encVal
  have := encBody_len hf
  split
  · simp
  · simp; omega
theorem ckField0 (a b c : Nat) (w : World) : (Instr.field 112 (.agg #[.func (.func a) #[] #[], .func (.func b) #[] #[], .func (.func c) #[] #[]]) 0).run Tryz.prog w = .ok (.func (.func a) #[] #[]) w := by kernel_rfl
theorem ckField1 (a b c : Nat) (w : World) : (Instr.field 112 (.agg #[.func (.func a) #[] #[], .func (.func b) #[] #[], .func (.func c) #[] #[]]) 1).run Tryz.prog w = .ok (.func (.func b) #[] #[]) w := by kernel_rfl
theorem ckField2 (a b c : Nat) (w : World) : (Instr.field 112 (.agg #[.func (.func a) #[] #[], .func (.func b) #[] #[], .func (.func c) #[] #[]]) 2).run Tryz.prog w = .ok (.func (.func c) #[] #[]) w := by kernel_rfl
theorem reads_one {V : World} {g : Nat} {u : Value} (h : V.cell? ⟨g, 0, none⟩ = some u) : Reads V V.heap.size 1 (some ⟨g, 0, none⟩) 1 [u] :=
  ⟨rfl, fun _ => ⟨_, rfl, World.block_lt_of_cell? (w := V) (a := ⟨g, 0, none⟩) h, fun j x hx => by
    have hj : j = 0 := by have := (List.getElem?_eq_some_iff.1 hx).1; simp at this; omega
    subst hj
    simp at hx
    subst hx
    rw [add_free]
    exact h⟩⟩
theorem layF_enters {t : Int} (h1 : 1 ≤ t) (h4 : t ≤ 4) : ∀ args w, (callFunc (layF t) args).run Tryz.prog w = .ok (.enter (layF t) args) w := by
  have hc : t = 1 ∨ t = 2 ∨ t = 3 ∨ t = 4 := by omega
  rcases hc with rfl | rfl | rfl | rfl
  · exact enters_of Tryz.func109 (by kernel_rfl) rfl
  · exact enters_of Tryz.func115 (by kernel_rfl) rfl
  · exact enters_of Tryz.func117 (by kernel_rfl) rfl
  · exact enters_of Tryz.func120 (by kernel_rfl) rfl
def encGives (cols : List Col) (key : List Int) (uq : List (List Int)) (l : List Val) : List UInt8 × Int := if rowAll cols key uq l = 0 then (encRow cols l, 0) else ([], rowAll cols key uq l)
set_option maxRecDepth 100000 in
set_option maxHeartbeats 8000000 in
theorem cdEncode_any (vc vk vu vl : Value) (cols : List Col) (key : List Int) (uq : List (List Int)) (l : List Val) (w : World) (hg : ErrType w) (hc : ColsAt w vc cols) (hk : IntsAt w vk key) (hu : ListsAt w vu uq) (hl : ValsAt w vl l) (hw : ∀ x ∈ l, x.Wf) (hm : l.length ≤ 1000) :
    Calls Tryz.prog 37 #[.agg #[vc, vk, vu], vl] w fun e w' => ∃ v, e = .returned (.tuple #[v, .int .i64 (encGives cols key uq l).2]) ∧ BsAt w' v (encGives cols key uq l).1 ∧ Bel w w' := by
  have hb0 : Bel w (w.alloc (.cells #[vc, vk, vu] 26)) := (Bel.refl w).alloc _
  have HSR := Lib.hid (scRow_any vc vk vu vl cols key uq l _ (hg.bel hb0) (hc.bel hb0) (hk.bel hb0) (hu.bel hb0) (hl.bel hb0) hw)
  unfold encGives
  by_cases hr0 : rowAll cols key uq l = 0
  case neg =>
    rw [if_neg hr0]
    have hrb : (rowAll cols key uq l != 0) = true := by rw [bne_iff_ne]; exact hr0
    clear hc hk hu hl hr0
    generalize rowAll cols key uq l = r at *
    go_enter Tryz.func37, Tryz.ntmps37
    go_wp2_with fail
    refine HSR.out.mono ?_
    rintro e w4 ⟨rfl, hb4⟩
    go_wp2
    go_ret2
    exact ⟨_, rfl, ⟨none, 0, rfl, Nat.le_refl _, Nat.zero_le _, Reads.none_⟩, hb0.then_ hb4⟩
  case pos =>
    rw [if_pos hr0]
    have hrs : rightS cols key uq = true := by
      unfold rowAll at hr0
      cases h : rightS cols key uq
      · rw [h] at hr0; simp at hr0
      · rfl
    have hall := row_all (cols := cols) (key := key) (uq := uq) (l := l) hrs
    rw [hr0] at HSR hall
    have hall : allFit cols l (min l.length cols.length) = true := by rw [← hall]; rfl
    unfold allFit at hall
    rw [Bool.and_eq_true] at hall
    have hlen := of_decide_eq_true hall.1
    have hfit : ∀ i, i < l.length → fitAt cols l i = 0 := fun i hi => of_decide_eq_true (List.all_eq_true.1 hall.2 i (List.mem_range.2 (by omega)))
    have HFIT := Lib.hid hfit
    have HWF := Lib.hid hw
    have HLEN := Lib.hid hlen
    obtain ⟨Ac, cc, rfl, hcc, hmc, hrc⟩ := hc
    obtain ⟨Al, cl, rfl, hcl, hml, hrl⟩ := hl
    have HRC := Lib.hid hrc
    have HRL := Lib.hid hrl
    have hlI : (l.length : Int) ≤ 1000 := by omega
    have hcI : (cols.length : Int) ≤ 1000 := by omega
    have HB0 := Lib.hid hb0
    obtain ⟨i0, hi0, hz0, hz1, hz2⟩ := info_parts infoU8
    have hp1 : (0 : Nat) < 1 := by omega
    have HML := Lib.hid hm
    clear hg hk hu hw hfit hall hrs hr0 hrc hrl hlen hcc hmc hcl hml hb0 hm
    go_enter Tryz.func37, Tryz.ntmps37
    go_wp2_with fail
    refine HSR.out.mono ?_
    rintro e w4 ⟨rfl, hb4⟩
    have HB4 := Lib.hid hb4
    clear hb4
    go_wp2
    go_loopw [7, 19] (fun v i wr => ∃ (k n : Nat), k ≤ l.length ∧ i = .int .i64 k ∧ (∃ A c, v = .slice A n c) ∧ n ≤ 221 * k ∧ Hid (Bel w4 wr ∧ wr.ownsRow w4.heap.size 5 1 v n ((encRow (cols.take k) (l.take k)).map bv))) (fun v i _ => l.length - (intOf i).toNat)
    case atStart => exact ⟨0, 0, Nat.zero_le _, rfl, ⟨none, 0, rfl⟩, by omega, Bel.refl w4, World.ownsRow_nil _ _ _ _⟩
    case round =>
      obtain ⟨k, n, hk, rfl, ⟨A, c, rfl⟩, hn, HO⟩ := hrel
      have l0 : wr.cell? ⟨w.heap.size, 0, none⟩ = some (.slice Ac cols.length cc) := HO.out.1.c (HB4.out.c (by go_simp))
      have hbw : Bel w wr := (HB0.out.then_ HB4.out).then_ HO.out.1
      by_cases hlt : k < l.length
      · obtain ⟨x, hx⟩ : ∃ x, l[k]? = some x := ⟨_, List.getElem?_eq_getElem hlt⟩
        obtain ⟨co, hco⟩ : ∃ co, cols[k]? = some co := ⟨_, List.getElem?_eq_getElem (by have := HLEN.out; omega)⟩
        obtain ⟨bc, oc, rfl, hci⟩ := HRC.out (by have := HLEN.out; omega)
        obtain ⟨bl, ol, rfl, hli⟩ := HRL.out (by omega)
        obtain ⟨q0, q1, q2, q3⟩ := hci k co hco
        obtain ⟨p0, p1, p2, p3⟩ := hli k x hx
        have c0 := hbw.c q0
        have c1 := hbw.c q1
        have c2 := hbw.c q2
        have c3 := hbw.c q3
        have d0 := hbw.c p0
        have d1 := hbw.c p1
        have d2 := hbw.c p2
        have d3 := hbw.c p3
        have hfx : fitsI co x = 0 := by rw [← fitAt_at hco hx]; exact HFIT.out k hlt
        have hwx := HWF.out x (List.mem_of_getElem? hx)
        have HTK := Lib.hid (encRow_take hco hx)
        have HEL := Lib.hid (encVal_len hfx)
        have hkI : (k : Int) < l.length := by omega
        have hkJ : (k : Int) < cols.length := by have := HLEN.out; omega
        have hwsz : w.heap.size < wr.heap.size := World.block_lt_of_cell? (w := wr) (a := ⟨w.heap.size, 0, none⟩) l0
        have hbcl : bc < wr.heap.size := World.block_lt_of_cell? (w := wr) (a := ⟨bc, oc + k * 4, none⟩) c0
        have hbll : bl < wr.heap.size := World.block_lt_of_cell? (w := wr) (a := ⟨bl, ol + k * 4, none⟩) d0
        by_cases h0 : x.k = 0
        · have hkb : (x.k == 0) = true := by rw [beq_iff_eq]; exact h0
          have hlist : (encRow (cols.take k) (l.take k)).map bv ++ [.int .u8 0] = (encRow (cols.take (k + 1)) (l.take (k + 1))).map bv := by
            rw [HTK.out]
            unfold encVal
            rw [if_pos h0, List.map_append]
            rfl
          have HLIST := Lib.hid hlist
          obtain ⟨xk, xn, xu, xb⟩ := x
          dsimp only at *
          have hal : Bel wr ((wr.alloc (.cells #[.int .i64 xk, .int .i64 xn, .int .u64 xu, .string xb] 48)).alloc (.cells #[.int .u8 0] 5)) := ((Bel.refl wr).alloc _).alloc _
          have HOW := Lib.hid (ownsRow_bel HO.out.2 hal)
          have HX : Hid (Reads ((wr.alloc (.cells #[.int .i64 xk, .int .i64 xn, .int .u64 xu, .string xb] 48)).alloc (.cells #[.int .u8 0] 5)) ((wr.alloc (.cells #[.int .i64 xk, .int .i64 xn, .int .u64 xu, .string xb] 48)).alloc (.cells #[.int .u8 0] 5)).heap.size 1 (some ⟨wr.heap.size + 1, 0, none⟩) 1 [.int .u8 0]) := by
            show Reads _ _ _ _ _ _
            refine reads_one ?_
            go_simp
          have hone1 : ∀ u ∈ [(.int .u8 0 : Value)], u.oneCell' = true := by simp [Value.oneCell']
          have h63 : n + 1 ≤ maxLen := by have := HML.out; unfold maxLen; omega
          have hby : (n + 1) * 1 ≤ 140737488355328 := by have := HML.out; omega
          have hbase := (HO.out.1.then_ hal).size
          have HAL := Lib.hid (HO.out.1.then_ hal)
          clear hx hco hci hli q0 q1 q2 q3 p0 p1 p2 p3 hfx hwx hbw h0 hlist hal
          go_wp2_with (at_builtin; refine wpList_append_any _ rfl (.tmp 27) (.tmp 28) _ rfl w4.heap.size 5 i0 _ 1 1 Tryz.underlying63 hi0 hz0 hz1 hz2 rfl hp1 _ n _ rfl HOW.out _ (some ⟨wr.heap.size + 1, 0, none⟩) 1 1 _ rfl HX.out hone1 h63 hby hbase ?_; intro v9 w9 hown9 hg9 hat9; obtain ⟨A9, c9, rfl⟩ := row_form hown9; have hb9 : Bel w4 w9 := Below.grown HAL.out hg9 hbase (fun j e => (HOW.out.lt j e).1); have HN9 := Lib.hid (And.intro hb9 hown9); rw [HLIST.out] at HN9; clear hown9 hg9 hat9 hb9)
          go_roundw
          case rel => exact ⟨k + 1, n + 1, by omega, by go_num, ⟨A9, c9, rfl⟩, by omega, HN9.out⟩
          case measure => simp [intOf]; omega
        · have hkb : (x.k == 0) = false := by rw [beq_eq_false_iff_ne]; exact h0
          have HLAY := Lib.hid (fun V => lay_any co x hfx hwx h0 V)
          obtain ⟨ht1, ht4, -, -⟩ := right_parts (fits_parts hfx).1
          obtain ⟨cn, ct, cz, cnl⟩ := co
          obtain ⟨xk, xn, xu, xb⟩ := x
          unfold Col.v Val.v at HLAY
          dsimp only at *
          have hbw0 := Lib.hid hbw
          have HNZ := Lib.hid h0
          have eg := layF_enters ht1 ht4
          have hfd := ckField0
          have HLK := Lib.hid (fun (b : Nat) (V : World) (hb : V.heap[b]? = some (.map ckMap 4)) => ckLook ht1 ht4 hb)
          clear hx hco hci hli q0 q1 q2 q3 p0 p1 p2 p3 hfx hwx hbw h0
          go_wp2_with fail
          refine wp_name ?_
          intro W1 hW1
          have hb1 : Bel wr W1 := by rw [hW1]; exact ((Bel.refl wr).alloc _).alloc _
          have hs1 : W1.heap.size = wr.heap.size + 1 + 1 := by rw [hW1]; simp
          have g0 : (fun V : World => Bel w4 V ∧ (V.cell? ⟨wr.heap.size, 0, none⟩ = some (.int .i64 xk) ∧ V.cell? ⟨wr.heap.size, 1, none⟩ = some (.int .i64 xn) ∧ V.cell? ⟨wr.heap.size, 2, none⟩ = some (.int .u64 xu) ∧ V.cell? ⟨wr.heap.size, 3, none⟩ = some (.string xb)) ∧ V.cell? ⟨wr.heap.size + 1, 0, none⟩ = some (.string cn) ∧ V.cell? ⟨wr.heap.size + 1, 1, none⟩ = some (.int .i64 ct) ∧ V.cell? ⟨wr.heap.size + 1, 2, none⟩ = some (.int .i64 cz) ∧ V.cell? ⟨wr.heap.size + 1, 3, none⟩ = some (.bool cnl)) W1 := by
            rw [hW1]
            exact ⟨(HO.out.1.alloc _).alloc _, ⟨by go_simp, by go_simp, by go_simp, by go_simp⟩, by go_simp, by go_simp, by go_simp, by go_simp⟩
          have HG0 := Lib.hid g0
          have hS1 : ∀ V, Bel W1 V → (fun V : World => Bel w4 V ∧ (V.cell? ⟨wr.heap.size, 0, none⟩ = some (.int .i64 xk) ∧ V.cell? ⟨wr.heap.size, 1, none⟩ = some (.int .i64 xn) ∧ V.cell? ⟨wr.heap.size, 2, none⟩ = some (.int .u64 xu) ∧ V.cell? ⟨wr.heap.size, 3, none⟩ = some (.string xb)) ∧ V.cell? ⟨wr.heap.size + 1, 0, none⟩ = some (.string cn) ∧ V.cell? ⟨wr.heap.size + 1, 1, none⟩ = some (.int .i64 ct) ∧ V.cell? ⟨wr.heap.size + 1, 2, none⟩ = some (.int .i64 cz) ∧ V.cell? ⟨wr.heap.size + 1, 3, none⟩ = some (.bool cnl)) V := fun V h => ⟨HG0.out.1.then_ h, ⟨h.c HG0.out.2.1.1, h.c HG0.out.2.1.2.1, h.c HG0.out.2.1.2.2.1, h.c HG0.out.2.1.2.2.2⟩, h.c HG0.out.2.2.1, h.c HG0.out.2.2.2.1, h.c HG0.out.2.2.2.2.1, h.c HG0.out.2.2.2.2.2⟩
          clear hW1 g0
          have HOW2 : Hid ((W1.alloc (.cells #[.int .u8 1] 5)).drew.ownsRow w4.heap.size 5 1 (.slice A n c) n ((encRow (cols.take k) (l.take k)).map bv)) := ownsRow_bel HO.out.2 (hb1.then_ ((Bel.refl _).alloc _).drew)
          have HX2 : Hid (Reads (W1.alloc (.cells #[.int .u8 1] 5)).drew (W1.alloc (.cells #[.int .u8 1] 5)).drew.heap.size 1 (some ⟨W1.heap.size, 0, none⟩) 1 [.int .u8 1]) := by
            show Reads _ _ _ _ _ _
            refine reads_one ?_
            go_simp
          have HS2 := Lib.hid (hS1 _ ((Bel.refl W1).alloc (.cells #[.int .u8 1] 5)).drew)
          have hone1 : ∀ u ∈ [(.int .u8 1 : Value)], u.oneCell' = true := by simp [Value.oneCell']
          have h63 : n + 1 ≤ maxLen := by have := HML.out; unfold maxLen; omega
          have hby : (n + 1) * 1 ≤ 140737488355328 := by have := HML.out; omega
          have hbase : w4.heap.size ≤ (W1.alloc (.cells #[.int .u8 1] 5)).drew.heap.size := HS2.out.1.size
          have hbone := bv_one (encBody ⟨cn, ct, cz, cnl⟩ ⟨xk, xn, xu, xb⟩)
          have hbl : (encBody ⟨cn, ct, cz, cnl⟩ ⟨xk, xn, xu, xb⟩).length ≤ 220 := by
            have := HEL.out
            unfold encVal at this
            dsimp only at this
            rw [if_neg HNZ.out] at this
            simpa using this
          have h63b : n + 1 + (encBody ⟨cn, ct, cz, cnl⟩ ⟨xk, xn, xu, xb⟩).length ≤ maxLen := by have := HML.out; unfold maxLen; omega
          have hbyb : (n + 1 + (encBody ⟨cn, ct, cz, cnl⟩ ⟨xk, xn, xu, xb⟩).length) * 1 ≤ 140737488355328 := by have := HML.out; omega
          have HS1 := Lib.hid hs1
          have HKEEP : Hid (∀ (V V' : World) (v : Value), (fun V : World => Bel w4 V ∧ (V.cell? ⟨wr.heap.size, 0, none⟩ = some (.int .i64 xk) ∧ V.cell? ⟨wr.heap.size, 1, none⟩ = some (.int .i64 xn) ∧ V.cell? ⟨wr.heap.size, 2, none⟩ = some (.int .u64 xu) ∧ V.cell? ⟨wr.heap.size, 3, none⟩ = some (.string xb)) ∧ V.cell? ⟨wr.heap.size + 1, 0, none⟩ = some (.string cn) ∧ V.cell? ⟨wr.heap.size + 1, 1, none⟩ = some (.int .i64 ct) ∧ V.cell? ⟨wr.heap.size + 1, 2, none⟩ = some (.int .i64 cz) ∧ V.cell? ⟨wr.heap.size + 1, 3, none⟩ = some (.bool cnl)) V → V.grownBy V' v.ownBlock → (∀ g, v.ownBlock = some g → w4.heap.size ≤ g ∧ (g < wr.heap.size ∨ wr.heap.size + 2 ≤ g)) → (fun V : World => Bel w4 V ∧ (V.cell? ⟨wr.heap.size, 0, none⟩ = some (.int .i64 xk) ∧ V.cell? ⟨wr.heap.size, 1, none⟩ = some (.int .i64 xn) ∧ V.cell? ⟨wr.heap.size, 2, none⟩ = some (.int .u64 xu) ∧ V.cell? ⟨wr.heap.size, 3, none⟩ = some (.string xb)) ∧ V.cell? ⟨wr.heap.size + 1, 0, none⟩ = some (.string cn) ∧ V.cell? ⟨wr.heap.size + 1, 1, none⟩ = some (.int .i64 ct) ∧ V.cell? ⟨wr.heap.size + 1, 2, none⟩ = some (.int .i64 cz) ∧ V.cell? ⟨wr.heap.size + 1, 3, none⟩ = some (.bool cnl)) V') := fun V V' v h hg hv => by
            obtain ⟨a0, ⟨a1, a2, a3, a4⟩, a5, a6, a7, a8⟩ := h
            refine ⟨Below.grown a0 hg a0.size (fun j e => (hv j e).1), ⟨grown_c hg a1 ?_, grown_c hg a2 ?_, grown_c hg a3 ?_, grown_c hg a4 ?_⟩, grown_c hg a5 ?_, grown_c hg a6 ?_, grown_c hg a7 ?_, grown_c hg a8 ?_⟩ <;>
              (intro e; have := (hv _ e.symm).2; dsimp only at this; omega)
          have HLT : Hid (∀ g, (Value.slice A n c).ownBlock = some g → w4.heap.size ≤ g ∧ (g < wr.heap.size ∨ wr.heap.size + 2 ≤ g)) := fun g e => by
            have := HO.out.2.lt g e
            exact ⟨this.1, .inl this.2⟩
          have HLT9 : Hid (∀ (v : Value) (g : Nat), (v.ownBlock = (Value.slice A n c).ownBlock ∨ v.ownBlock = some (W1.alloc (.cells #[.int .u8 1] 5)).drew.heap.size) → v.ownBlock = some g → w4.heap.size ≤ g ∧ (g < wr.heap.size ∨ wr.heap.size + 2 ≤ g)) := fun v g h e => by
            rcases h with h | h
            · exact HLT.out g (h.symm.trans e)
            · rw [h] at e
              have e := Option.some.inj e
              have h2 := HO.out.1.size
              have h3 : (W1.alloc (.cells #[.int .u8 1] 5)).drew.heap.size = W1.heap.size + 1 := by simp
              omega
          clear hs1
          refine wp_region_noPanic ?_
          refine wp_region_held_drew (S := (fun V : World => Bel w4 V ∧ (V.cell? ⟨wr.heap.size, 0, none⟩ = some (.int .i64 xk) ∧ V.cell? ⟨wr.heap.size, 1, none⟩ = some (.int .i64 xn) ∧ V.cell? ⟨wr.heap.size, 2, none⟩ = some (.int .u64 xu) ∧ V.cell? ⟨wr.heap.size, 3, none⟩ = some (.string xb)) ∧ V.cell? ⟨wr.heap.size + 1, 0, none⟩ = some (.string cn) ∧ V.cell? ⟨wr.heap.size + 1, 1, none⟩ = some (.int .i64 ct) ∧ V.cell? ⟨wr.heap.size + 1, 2, none⟩ = some (.int .i64 cz) ∧ V.cell? ⟨wr.heap.size + 1, 3, none⟩ = some (.bool cnl))) (by kernel_rfl) ?_ (fun hHr1_0 => ?_)
          · (try dsimp only); (first | assumption | exact hS1 _ (Bel.refl _).drew | exact HS2.out | exact HS9.out | exact hS9 _ hb10 | exact hS9 _ hb11 | exact HS12.out)
          refine wpAnyH_take (i := 0) (oi := _) (v := ?vr1_1_0) rfl (by kernel_rfl) (by kernel_rfl) (by kernel_rfl) ?hqr1_1_0 (Or.inl ⟨by kernel_rfl, ?hyr1_1_0⟩) (by assumption) ?restr1_1_0
          case hqr1_1_0 => exact fun _ _ _ h => h
          case hyr1_1_0 => (intro w hSw; (try dsimp only at hSw); go_simp; try with_reducible rfl)
          try simp only [Act.put, List.getElem_toArray, List.getElem_cons_succ, List.getElem_cons_zero, List.setIfInBounds_toArray, List.set_cons_zero, List.set_cons_succ]
          refine wpAnyH_take (i := 4) (oi := _) (v := ?vr1_1_4) rfl (by kernel_rfl) (by kernel_rfl) (by kernel_rfl) ?hqr1_1_4 (Or.inl ⟨by kernel_rfl, ?hyr1_1_4⟩) (by assumption) ?restr1_1_4
          case hqr1_1_4 => exact fun _ _ _ h => h
          case hyr1_1_4 => (intro w hSw; (try dsimp only at hSw); go_simp; try with_reducible rfl)
          try simp only [Act.put, List.getElem_toArray, List.getElem_cons_succ, List.getElem_cons_zero, List.setIfInBounds_toArray, List.set_cons_zero, List.set_cons_succ]
          refine wpAnyH_take (i := 5) (oi := _) (v := ?vr1_1_5) rfl (by kernel_rfl) (by kernel_rfl) (by kernel_rfl) ?hqr1_1_5 (Or.inl ⟨by kernel_rfl, ?hyr1_1_5⟩) (by assumption) ?restr1_1_5
          case hqr1_1_5 => exact fun _ _ _ h => h
          case hyr1_1_5 => (intro w hSw; (try dsimp only at hSw); go_simp; try with_reducible rfl)
          try simp only [Act.put, List.getElem_toArray, List.getElem_cons_succ, List.getElem_cons_zero, List.setIfInBounds_toArray, List.set_cons_zero, List.set_cons_succ]
          refine wpAnyH_take (i := 8) (oi := _) (v := ?vr1_1_8) rfl (by kernel_rfl) (by kernel_rfl) (by kernel_rfl) ?hqr1_1_8 (Or.inl ⟨by kernel_rfl, ?hyr1_1_8⟩) (by assumption) ?restr1_1_8
          case hqr1_1_8 => exact fun _ _ _ h => h
          case hyr1_1_8 => (intro w hSw; (try dsimp only at hSw); go_simp; try with_reducible rfl)
          try simp only [Act.put, List.getElem_toArray, List.getElem_cons_succ, List.getElem_cons_zero, List.setIfInBounds_toArray, List.set_cons_zero, List.set_cons_succ]
          refine wpAnyH_take (i := 9) (oi := _) (v := ?vr1_1_9) rfl (by kernel_rfl) (by kernel_rfl) (by kernel_rfl) ?hqr1_1_9 (Or.inl ⟨by kernel_rfl, ?hyr1_1_9⟩) (by assumption) ?restr1_1_9
          case hqr1_1_9 => exact fun _ _ _ h => h
          case hyr1_1_9 => (intro w hSw; (try dsimp only at hSw); go_simp; try with_reducible rfl)
          try simp only [Act.put, List.getElem_toArray, List.getElem_cons_succ, List.getElem_cons_zero, List.setIfInBounds_toArray, List.set_cons_zero, List.set_cons_succ]
          refine wpAnyH_ready (rs := [1]) (by kernel_rfl) (by simp) ?_
          refine AllReadyH.cons (o := _) rfl (fun K hK => ?_) AllReadyH.nil
          go_simp
          refine hK.out _ _ ?_ (fun hHr1_1 => ?_)
          · (try dsimp only); (first | assumption | exact hS1 _ (Bel.refl _).drew | exact HS2.out | exact HS9.out | exact hS9 _ hb10 | exact hS9 _ hb11 | exact HS12.out)
          clear hK K hHr1_0
          try simp only [Act.put, List.getElem_toArray, List.getElem_cons_succ, List.getElem_cons_zero, List.setIfInBounds_toArray, List.set_cons_zero, List.set_cons_succ]
          refine wpAnyH_ready (rs := [2]) (by kernel_rfl) (by simp) ?_
          refine AllReadyH.cons (o := _) rfl (fun K hK => ?_) AllReadyH.nil
          rw [if_pos (by first | rfl | kernel_rfl)]
          (refine wp_append_any _ (.tmp 35) (.tmp 36) 63 rfl w4.heap.size 5 i0 _ 1 1 Tryz.underlying63 hi0 hz0 hz1 hz2 rfl hp1 (.slice A n c) n _ (by rfl) HOW2.out _ (some ⟨W1.heap.size, 0, none⟩) 1 1 _ (by rfl) HX2.out hone1 h63 hby hbase ?_; intro v9 w9 hown9 hg9 hat9; have HS9 := Lib.hid (HKEEP.out _ w9 _ HS2.out hg9 HLT.out); have HAT9 := Lib.hid hat9; obtain ⟨A9, c9, rfl⟩ := row_form hown9; have HOWN9 := Lib.hid hown9; have hS9 := fun (V : World) (h : Bel w9 V) => (⟨HS9.out.1.then_ h, ⟨h.c HS9.out.2.1.1, h.c HS9.out.2.1.2.1, h.c HS9.out.2.1.2.2.1, h.c HS9.out.2.1.2.2.2⟩, h.c HS9.out.2.2.1, h.c HS9.out.2.2.2.1, h.c HS9.out.2.2.2.2.1, h.c HS9.out.2.2.2.2.2⟩ : (fun V : World => Bel w4 V ∧ (V.cell? ⟨wr.heap.size, 0, none⟩ = some (.int .i64 xk) ∧ V.cell? ⟨wr.heap.size, 1, none⟩ = some (.int .i64 xn) ∧ V.cell? ⟨wr.heap.size, 2, none⟩ = some (.int .u64 xu) ∧ V.cell? ⟨wr.heap.size, 3, none⟩ = some (.string xb)) ∧ V.cell? ⟨wr.heap.size + 1, 0, none⟩ = some (.string cn) ∧ V.cell? ⟨wr.heap.size + 1, 1, none⟩ = some (.int .i64 ct) ∧ V.cell? ⟨wr.heap.size + 1, 2, none⟩ = some (.int .i64 cz) ∧ V.cell? ⟨wr.heap.size + 1, 3, none⟩ = some (.bool cnl)) V); clear hown9 hat9 hg9)
          refine hK.out _ _ ?_ (fun hHr1_2 => ?_)
          · (try dsimp only); (first | assumption | exact hS1 _ (Bel.refl _).drew | exact HS2.out | exact HS9.out | exact hS9 _ hb10 | exact hS9 _ hb11 | exact HS12.out)
          clear hK K hHr1_1
          try simp only [Act.put, List.getElem_toArray, List.getElem_cons_succ, List.getElem_cons_zero, List.setIfInBounds_toArray, List.set_cons_zero, List.set_cons_succ]
          refine wpAnyH_ready (rs := [3]) (by kernel_rfl) (by simp) ?_
          refine AllReadyH.cons (o := _) rfl (fun K hK => ?_) AllReadyH.nil
          go_simp
          (go_at_call 70; refine (cdkinds_any _).mono ?_; rintro e w10 ⟨bm, rfl, hmap, hb10⟩; have hlk := HLK.out bm w10 hmap)
          try (go_wp2_with fail)
          refine hK.out _ _ ?_ (fun hHr1_3 => ?_)
          · (try dsimp only); (first | assumption | exact hS1 _ (Bel.refl _).drew | exact HS2.out | exact HS9.out | exact hS9 _ hb10 | exact hS9 _ hb11 | exact HS12.out)
          clear hK K hHr1_2
          try simp only [Act.put, List.getElem_toArray, List.getElem_cons_succ, List.getElem_cons_zero, List.setIfInBounds_toArray, List.set_cons_zero, List.set_cons_succ]
          refine wpAnyH_ready (rs := [6]) (by kernel_rfl) (by simp) ?_
          refine AllReadyH.cons (o := _) rfl (fun K hK => ?_) AllReadyH.nil
          go_simp
          refine hK.out _ _ ?_ (fun hHr1_4 => ?_)
          · (try dsimp only); (first | assumption | exact hS1 _ (Bel.refl _).drew | exact HS2.out | exact HS9.out | exact hS9 _ hb10 | exact hS9 _ hb11 | exact HS12.out)
          clear hK K hHr1_3
          try simp only [Act.put, List.getElem_toArray, List.getElem_cons_succ, List.getElem_cons_zero, List.setIfInBounds_toArray, List.set_cons_zero, List.set_cons_succ]
          refine wpAnyH_take (i := 7) (oi := _) (v := ?vr1_1_7) rfl (by kernel_rfl) (by kernel_rfl) (by kernel_rfl) ?hqr1_1_7 (Or.inl ⟨by kernel_rfl, ?hyr1_1_7⟩) (by assumption) ?restr1_1_7
          case hqr1_1_7 => exact fun _ _ _ h => h
          case hyr1_1_7 => (intro w hSw; (try dsimp only at hSw); go_simp; try with_reducible rfl)
          try simp only [Act.put, List.getElem_toArray, List.getElem_cons_succ, List.getElem_cons_zero, List.setIfInBounds_toArray, List.set_cons_zero, List.set_cons_succ]
          refine wpAnyH_ready (rs := [10]) (by kernel_rfl) (by simp) ?_
          refine AllReadyH.cons (o := _) rfl (fun K hK => ?_) AllReadyH.nil
          go_simp
          (go_at_fn (layF ct); refine (HLAY.out _).mono ?_; rintro e w11 ⟨A2, c2, rfl, hown2, hb2⟩; have hb11 := hb10.then_ hb2)
          try (go_wp2_with fail)
          refine hK.out _ _ ?_ (fun hHr1_5 => ?_)
          · (try dsimp only); (first | assumption | exact hS1 _ (Bel.refl _).drew | exact HS2.out | exact HS9.out | exact hS9 _ hb10 | exact hS9 _ hb11 | exact HS12.out)
          clear hK K hHr1_4
          try simp only [Act.put, List.getElem_toArray, List.getElem_cons_succ, List.getElem_cons_zero, List.setIfInBounds_toArray, List.set_cons_zero, List.set_cons_succ]
          refine wpAnyH_ready (rs := [11]) (by kernel_rfl) (by simp) ?_
          refine AllReadyH.cons (o := _) rfl (fun K hK => ?_) AllReadyH.nil
          rw [if_pos (by first | rfl | kernel_rfl)]
          (refine wp_append_any _ (.tmp 37) (.tmp 45) 63 rfl w4.heap.size 5 i0 _ 1 1 Tryz.underlying63 hi0 hz0 hz1 hz2 rfl hp1 (.slice A9 (n + 1) c9) (n + 1) _ (by rfl) (ownsRow_bel HOWN9.out hb11) _ A2 (encBody ⟨cn, ct, cz, cnl⟩ ⟨xk, xn, xu, xb⟩).length c2 _ (by rfl) (Reads.of_own hown2) hbone h63b hbyb (hS9 _ hb11).1.size ?_; intro v12 w12 hown12 hg12 hat12; have HS12 := Lib.hid (HKEEP.out _ w12 _ (hS9 _ hb11) hg12 (fun g e => HLT9.out _ g HAT9.out e)); obtain ⟨A12, c12, rfl⟩ := row_form hown12; have HOWN12 := Lib.hid hown12; clear hown12 hg12 hat12)
          refine hK.out _ _ ?_ (fun hHr1_6 => ?_)
          · (try dsimp only); (first | assumption | exact hS1 _ (Bel.refl _).drew | exact HS2.out | exact HS9.out | exact hS9 _ hb10 | exact hS9 _ hb11 | exact HS12.out)
          clear hK K hHr1_5
          try simp only [Act.put, List.getElem_toArray, List.getElem_cons_succ, List.getElem_cons_zero, List.setIfInBounds_toArray, List.set_cons_zero, List.set_cons_succ]
          refine wpAnyH_take (i := 12) (oi := _) (v := ?vr1_1_12) rfl (by kernel_rfl) (by kernel_rfl) (by kernel_rfl) ?hqr1_1_12 (Or.inl ⟨by kernel_rfl, ?hyr1_1_12⟩) (by assumption) ?restr1_1_12
          case hqr1_1_12 => exact fun _ _ _ h => h
          case hyr1_1_12 => (intro w hSw; (try dsimp only at hSw); go_simp; try with_reducible rfl)
          try simp only [Act.put, List.getElem_toArray, List.getElem_cons_succ, List.getElem_cons_zero, List.setIfInBounds_toArray, List.set_cons_zero, List.set_cons_succ]
          refine wpAnyH_done (by kernel_rfl) ?_ _
          refine NoPanic.normal ?_
          have hlist : ((encRow (cols.take k) (l.take k)).map bv ++ [.int .u8 1]) ++ (encBody ⟨cn, ct, cz, cnl⟩ ⟨xk, xn, xu, xb⟩).map bv = (encRow (cols.take (k + 1)) (l.take (k + 1))).map bv := by
            have := HTK.out
            rw [this]
            unfold encVal
            dsimp only
            rw [if_neg HNZ.out, List.map_append, List.append_assoc]
            rfl
          have HFIN := Lib.hid (And.intro HS12.out.1 HOWN12.out)
          rw [hlist] at HFIN
          clear hlist hlk hmap
          go_wp2_with fail
          go_roundw
          case rel => exact ⟨k + 1, _, by omega, by go_num, ⟨A12, c12, rfl⟩, by omega, HFIN.out⟩
          case measure => simp [intOf]; omega
      · obtain rfl : k = l.length := by omega
        have HFIN : Hid (BsAt wr (.slice A n c) (encRow cols l)) := by
          have := HO.out.2
          rw [List.take_length, List.take_of_length_le (by have := HLEN.out; omega)] at this
          exact BsAt.of_own this
        have HBW := Lib.hid hbw
        clear hlt hk l0 hbw
        go_wp2
        go_ret2
        exact ⟨_, rfl, HFIN.out, HBW.out⟩
end Go.Proofs.YtkklmflclmgjeaaGreatDoor

/-
  The codec: bytes that are read: must, some, take, got.
-/
set_option linter.unusedVariables false
set_option linter.unusedSimpArgs false
set_option linter.unusedVariables false
set_option linter.unusedSimpArgs false
namespace Go.Proofs.YtkklmflclmgjeaaGreatDoor
open Go.RowKit Go.Shelf Go.Lib

/-- What must gives up with. -/
def gaveUp : List PanicEntry := [{ v := .iface 32 (.int .i64 140), recovered := false }]
theorem must_yes (w : World) : Calls Tryz.prog 87 #[.bool true] w fun e w' => e = .returned (.tuple #[]) ∧ w = w' := by
  go_enter Tryz.func87, Tryz.ntmps87
  go_wp2
  go_end0
  exact ⟨rfl, rfl⟩
theorem must_no (w : World) : Calls Tryz.prog 87 #[.bool false] w fun e w' => e = .panicked gaveUp ∧ w = w' := by
  go_enter Tryz.func87, Tryz.ntmps87
  go_wp2
  exact ⟨rfl, rfl, rfl⟩
theorem some_yes (A : Option Addr) (n c k : Nat) (hk : k ≤ n) (hc : n ≤ c) (hm : c ≤ maxLen) (w : World) : Calls Tryz.prog 154 #[.slice A n c, .int .i64 k] w fun e w' => e = .returned (.slice A k k) ∧ w = w' := by
  have h1 : (k : Int) ≤ n := by omega
  have h2 : (n : Int) ≤ c := by omega
  have h3 : (c : Int) ≤ 9223372036854775807 := by unfold maxLen at hm; omega
  have hkc : (k : Int) ≤ c := by omega
  go_enter Tryz.func154, Tryz.ntmps154
  go_wp2_with (go_at_call 87; refine (must_yes _).mono ?_; rintro e w' ⟨rfl, rfl⟩)
  go_ret
  exact ⟨rfl, rfl⟩
theorem some_no (A : Option Addr) (n c k : Nat) (hk : n < k) (hk2 : k ≤ 1000000) (w : World) : Calls Tryz.prog 154 #[.slice A n c, .int .i64 k] w fun e w' => e = .panicked gaveUp ∧ w = w' := by
  have h1 : decide (k ≤ n) = false := by simp; omega
  have h3 : (k : Int) ≤ 1000000 := by omega
  go_enter Tryz.func154, Tryz.ntmps154
  go_wp2_with (go_at_call 87; refine (must_no _).mono ?_; rintro e w' ⟨rfl, rfl⟩)
  exact ⟨rfl, rfl, rfl⟩
/-- Bytes that are read: what is left of them. -/
def TapeAt (w : World) (bt : Nat) (s : List UInt8) : Prop := ∃ A c, w.cell? ⟨bt, 0, none⟩ = some (.slice A s.length c) ∧ w.frozen? ⟨bt, 0, none⟩ = false ∧ s.length ≤ c ∧ c ≤ maxLen ∧ Reads w bt 1 A s.length (s.map bv)
theorem TapeAt.bel {w w' : World} {bt : Nat} {s : List UInt8} (h : TapeAt w bt s) (hb : Bel w w') : TapeAt w' bt s := by
  obtain ⟨A, c, h1, h2, h3, h4, h5⟩ := h
  have hlt : bt < w.heap.size := World.block_lt_of_cell? (w := w) (a := ⟨bt, 0, none⟩) h1
  exact ⟨A, c, hb.c h1, hb.f h1 h2, h3, h4, h5.keep fun p hp => hb.cell (by omega)⟩
theorem TapeAt.reads {w : World} {bt : Nat} {s : List UInt8} (h : TapeAt w bt s) : ∃ A c, w.cell? ⟨bt, 0, none⟩ = some (.slice A s.length c) ∧ BsAt w (.slice A s.length c) s := by
  obtain ⟨A, c, h1, h2, h3, h4, h5⟩ := h
  have hlt : bt < w.heap.size := World.block_lt_of_cell? (w := w) (a := ⟨bt, 0, none⟩) h1
  exact ⟨A, c, h1, A, c, rfl, h3, h4, h5.more (by omega)⟩
def GivesTake (s : List UInt8) (k bt : Nat) (w : World) (e : Ending) (w' : World) : Prop := ∃ A, e = .returned (.slice A k k) ∧ Reads w' bt 1 A k ((s.take k).map bv) ∧ TapeAt w' bt (s.drop k) ∧ w.grownBy w' (some bt)
theorem Reads.head {w : World} {B : Nat} {A : Option Addr} {s : List UInt8} (h : Reads w B 1 A s.length (s.map bv)) (k : Nat) (hk : k ≤ s.length) : Reads w B 1 A k ((s.take k).map bv) := by
  refine ⟨by simp; omega, fun hn => ?_⟩
  obtain ⟨ad, rfl, hb, hc⟩ := h.2 (by omega)
  refine ⟨ad, rfl, hb, fun j u hu => hc j u ?_⟩
  rw [List.getElem?_map, List.getElem?_take] at hu
  rw [List.getElem?_map]
  split at hu
  · exact hu
  · cases hu
theorem Reads.rest {w : World} {B b off : Nat} {s : List UInt8} (h : Reads w B 1 (some ⟨b, off, none⟩) s.length (s.map bv)) (k : Nat) (hk : k ≤ s.length) : Reads w B 1 (some ⟨b, off + k, none⟩) (s.drop k).length ((s.drop k).map bv) := by
  refine ⟨by simp, fun hn => ?_⟩
  rw [List.length_drop] at hn
  obtain ⟨ad, e, hb, hc⟩ := h.2 (by omega)
  cases e
  refine ⟨_, rfl, hb, fun j u hu => ?_⟩
  have := hc (k + j) u (by
    rw [List.getElem?_map, List.getElem?_drop] at hu
    rw [List.getElem?_map]
    exact hu)
  rw [add_free] at this ⊢
  rw [Nat.add_assoc]
  exact this
set_option maxRecDepth 100000 in
set_option maxHeartbeats 1000000 in
theorem take_yes (bt : Nat) (s : List UInt8) (k : Nat) (hk : k ≤ s.length) (w : World) (h : TapeAt w bt s) : Calls Tryz.prog 113 #[.pointer (some ⟨bt, 0, none⟩), .int .i64 k] w (GivesTake s k bt w) := by
  obtain ⟨A, c, h1, h2, h3, h4, h5⟩ := h
  have HS := Lib.hid (fun V => some_yes A s.length c k hk h3 h4 V)
  have hrd := h5.head k hk
  have hI1 : (k : Int) ≤ s.length := by omega
  have hI2 : (s.length : Int) ≤ c := by omega
  have hI3 : (c : Int) ≤ 9223372036854775807 := by unfold maxLen at h4; omega
  have hlt : bt < w.heap.size := World.block_lt_of_cell? (w := w) (a := ⟨bt, 0, none⟩) h1
  have hdl : (s.drop k).length = s.length - k := List.length_drop
  cases A with
  | none =>
    have hs0 : s = [] := by
      rcases Nat.eq_zero_or_pos s.length with h0 | h0
      · exact List.eq_nil_of_length_eq_zero h0
      · obtain ⟨ad, e, -⟩ := h5.2 h0; cases e
    subst hs0
    obtain rfl : k = 0 := by simpa using hk
    have hg : w.grownBy (w.setCell ⟨bt, 0, none⟩ (.slice none 0 c)) (some bt) := grown_setCell _ _ _
    have HFIN : Hid (GivesTake [] 0 bt w (.returned (.slice none 0 0)) (w.setCell ⟨bt, 0, none⟩ (.slice none 0 c))) :=
      ⟨none, rfl, Reads.none_, ⟨none, c, by go_simp, by go_simp, Nat.zero_le _, h4, Reads.none_⟩, hg⟩
    clear hrd h5 hdl hk h3 hg hI1 hI2
    simp only [List.length_nil] at *
    go_enter Tryz.func113, Tryz.ntmps113
    go_wp2_with (go_at_call 154; refine (HS.out _).mono ?_; rintro e w' ⟨rfl, rfl⟩)
    go_ret
    exact HFIN.out
  | some ad =>
    have hcut := h5.cut (k := k) hk h3
    rw [Nat.mul_one, ← List.map_drop] at hcut
    by_cases hkc : c = k
    · rw [if_pos hkc] at hcut
      have hlen : s.length = k := by omega
      have hd0 : s.drop k = [] := List.drop_eq_nil_of_le (by omega)
      have hg : w.grownBy (w.setCell ⟨bt, 0, none⟩ (.slice (some ad) 0 0)) (some bt) := grown_setCell _ _ _
      have HFIN : Hid (GivesTake s k bt w (.returned (.slice (some ad) k k)) (w.setCell ⟨bt, 0, none⟩ (.slice (some ad) 0 0))) :=
        ⟨some ad, rfl, hrd.grown hg (Nat.le_of_lt hlt) (fun g e => by cases e; exact Nat.le_refl _), ⟨some ad, 0, by rw [hd0]; go_simp, by go_simp, by rw [hd0]; exact Nat.le_refl _, Nat.zero_le _, by rw [hd0]; exact ⟨rfl, fun h => by simp at h⟩⟩, hg⟩
      rw [hlen] at h1 HS
      clear hrd h5 hdl hk h3 hg hI1 hI2 hcut hd0 hlen
      subst hkc
      go_enter Tryz.func113, Tryz.ntmps113
      go_wp2_with (go_at_call 154; refine (HS.out _).mono ?_; rintro e w' ⟨rfl, rfl⟩)
      go_ret
      exact HFIN.out
    · rw [if_neg hkc, ← hdl] at hcut
      have hg : w.grownBy (w.setCell ⟨bt, 0, none⟩ (.slice (some (ad.add k)) (s.length - k) (c - k))) (some bt) := grown_setCell _ _ _
      have HFIN : Hid (GivesTake s k bt w (.returned (.slice (some ad) k k)) (w.setCell ⟨bt, 0, none⟩ (.slice (some (ad.add k)) (s.length - k) (c - k)))) :=
        ⟨some ad, rfl, hrd.grown hg (Nat.le_of_lt hlt) (fun g e => by cases e; exact Nat.le_refl _), ⟨some (ad.add k), c - k, by rw [hdl]; go_simp, by go_simp, by rw [hdl]; omega, by omega, hcut.grown hg (Nat.le_of_lt hlt) (fun g e => by cases e; exact Nat.le_refl _)⟩, hg⟩
      have hI4 : ((s.length : Int) - k).toNat = s.length - k := by omega
      have hI5 : ((c : Int) - k).toNat = c - k := by omega
      clear hrd h5 hdl hk h3 hg hcut
      go_enter Tryz.func113, Tryz.ntmps113
      go_wp2_with (go_at_call 154; refine (HS.out _).mono ?_; rintro e w' ⟨rfl, rfl⟩)
      go_ret
      exact HFIN.out
theorem take_no (bt : Nat) (s : List UInt8) (k : Nat) (hk : s.length < k) (hk2 : k ≤ 1000000) (w : World) (h : TapeAt w bt s) : Calls Tryz.prog 113 #[.pointer (some ⟨bt, 0, none⟩), .int .i64 k] w fun e w' => e = .panicked gaveUp ∧ w = w' := by
  obtain ⟨A, c, h1, h2, h3, h4, h5⟩ := h
  have HS := Lib.hid (fun V => some_no A s.length c k hk hk2 V)
  clear h3 h4 h5 hk hk2
  go_enter Tryz.func113, Tryz.ntmps113
  go_wp2_with (go_at_call 154; refine (HS.out _).mono ?_; rintro e w' ⟨rfl, rfl⟩)
  exact ⟨rfl, rfl, rfl⟩
/-- What reading a number, a text hands back. -/
def GivesGot (v : Value) (s : List UInt8) (bt : Nat) (w : World) (e : Ending) (w' : World) : Prop := e = .returned v ∧ TapeAt w' bt s ∧ w.grownBy w' (some bt)
def GaveUp (bt : Nat) (w : World) (e : Ending) (w' : World) : Prop := e = .panicked gaveUp ∧ w.grownBy w' (some bt)
set_option maxRecDepth 100000 in
theorem gotN_yes (bt : Nat) (s : List UInt8) (hs : s.length ≤ 1000000) (n m : Nat) (hr : rdNum s = some (n, m)) (w : World) (h : TapeAt w bt s) : Calls Tryz.prog 130 #[.pointer (some ⟨bt, 0, none⟩), .func (.func 131) #[] #[]] w (GivesGot (.int .u64 n) (s.drop m) bt w) := by
  obtain ⟨A, c, h1, hb⟩ := h.reads
  have HN := Lib.hid (oReadNumber_any _ s hs w hb)
  rw [hr] at HN
  obtain ⟨hm1, hml, -, -⟩ := rdNum_le hr
  have HT := Lib.hid (fun V (hb : Bel w V) => take_yes bt s m hml V (h.bel hb))
  clear hr h hb hs hml hm1
  unfold numV at HN
  go_enter Tryz.func130, Tryz.ntmps130
  go_wp2_with fail
  refine HN.out.mono ?_
  rintro e w1 ⟨rfl, hb1⟩
  go_wp2_with (first | (go_at_call 87; refine (must_yes _).mono ?_; rintro e w' ⟨rfl, rfl⟩) | (go_at_call 113; refine (HT.out _ hb1).mono ?_; rintro e w2 ⟨A2, rfl, hr2, ht2, hg2⟩))
  go_ret
  exact ⟨rfl, ht2, grown_trans (hb1.grown _) hg2⟩
set_option maxRecDepth 100000 in
theorem gotN_no (bt : Nat) (s : List UInt8) (hs : s.length ≤ 1000000) (hr : rdNum s = none) (w : World) (h : TapeAt w bt s) : Calls Tryz.prog 130 #[.pointer (some ⟨bt, 0, none⟩), .func (.func 131) #[] #[]] w (GaveUp bt w) := by
  obtain ⟨A, c, h1, hb⟩ := h.reads
  have HN := Lib.hid (oReadNumber_any _ s hs w hb)
  rw [hr] at HN
  clear hr h hb hs
  unfold numV at HN
  go_enter Tryz.func130, Tryz.ntmps130
  go_wp2_with fail
  refine HN.out.mono ?_
  rintro e w1 ⟨rfl, hb1⟩
  go_wp2_with (go_at_call 87; refine (must_no _).mono ?_; rintro e w' ⟨rfl, rfl⟩)
  exact ⟨rfl, rfl, hb1.grown _⟩
set_option maxRecDepth 100000 in
theorem gotS_yes (bt : Nat) (s : List UInt8) (hs : s.length ≤ 1000000) (x : List UInt8) (m : Nat) (hr : rdText s = some (x, m)) (w : World) (h : TapeAt w bt s) : Calls Tryz.prog 84 #[.pointer (some ⟨bt, 0, none⟩), .func (.func 85) #[] #[]] w (GivesGot (strV x) (s.drop m) bt w) := by
  obtain ⟨A, c, h1, hb⟩ := h.reads
  have HN := Lib.hid (oReadText_any _ s hs w hb)
  rw [hr] at HN
  obtain ⟨hml, hm1, -, -⟩ := rdText_back hr
  have HT := Lib.hid (fun V (hb : Bel w V) => take_yes bt s m hml V (h.bel hb))
  clear hr h hb hs hml hm1
  unfold textV at HN
  unfold strV at *
  go_enter Tryz.func84, Tryz.ntmps84
  go_wp2_with fail
  refine HN.out.mono ?_
  rintro e w1 ⟨rfl, hb1⟩
  go_wp2_with (first | (go_at_call 87; refine (must_yes _).mono ?_; rintro e w' ⟨rfl, rfl⟩) | (go_at_call 113; refine (HT.out _ hb1).mono ?_; rintro e w2 ⟨A2, rfl, hr2, ht2, hg2⟩))
  go_ret
  exact ⟨rfl, ht2, grown_trans (hb1.grown _) hg2⟩
set_option maxRecDepth 100000 in
theorem gotS_no (bt : Nat) (s : List UInt8) (hs : s.length ≤ 1000000) (hr : rdText s = none) (w : World) (h : TapeAt w bt s) : Calls Tryz.prog 84 #[.pointer (some ⟨bt, 0, none⟩), .func (.func 85) #[] #[]] w (GaveUp bt w) := by
  obtain ⟨A, c, h1, hb⟩ := h.reads
  have HN := Lib.hid (oReadText_any _ s hs w hb)
  rw [hr] at HN
  clear hr h hb hs
  unfold textV at HN
  go_enter Tryz.func84, Tryz.ntmps84
  go_wp2_with fail
  refine HN.out.mono ?_
  rintro e w1 ⟨rfl, hb1⟩
  go_wp2_with (go_at_call 87; refine (must_no _).mono ?_; rintro e w' ⟨rfl, rfl⟩)
  exact ⟨rfl, rfl, hb1.grown _⟩
end Go.Proofs.YtkklmflclmgjeaaGreatDoor

/-
  The codec: what each type reads.
-/
set_option linter.unusedVariables false
set_option linter.unusedSimpArgs false
set_option linter.unusedVariables false
set_option linter.unusedSimpArgs false
namespace Go.Proofs.YtkklmflclmgjeaaGreatDoor
open Go.RowKit Go.Shelf Go.Lib

def GivesVal (x : Val) (s : List UInt8) (bt : Nat) (w : World) (e : Ending) (w' : World) : Prop := e = .returned (.agg #[.int .i64 x.k, .int .i64 x.n, .int .u64 x.u, .string x.b]) ∧ TapeAt w' bt s ∧ w.grownBy w' (some bt)
theorem TapeAt.lt {w : World} {bt : Nat} {s : List UInt8} (h : TapeAt w bt s) : bt < w.heap.size := by
  obtain ⟨A, c, h1, -⟩ := h
  exact World.block_lt_of_cell? (w := w) (a := ⟨bt, 0, none⟩) h1
theorem TapeAt.setCell {w : World} {bt : Nat} {s : List UInt8} (h : TapeAt w bt s) {p : Addr} (hp : bt < p.block) (v : Value) : TapeAt (w.setCell p v) bt s := by
  obtain ⟨A, c, h1, h2, h3, h4, h5⟩ := h
  obtain ⟨pb, po, ps⟩ := p
  have hp : bt < pb := hp
  exact ⟨A, c, (World.cell?_setCell_other w _ _ v (fun e => by injection e with e1; omega)).trans h1, (World.frozen?_of_block (Below.heap_setCell _ _ _ _ (by show bt ≠ pb; omega))).trans h2, h3, h4, h5.setCell (by show bt ≤ pb; omega) v⟩
/-- In a new block cells may be set. -/
theorem grown_new {w0 w w' : World} {bt g : Nat} (h : w0.grownBy w (some bt)) (hg : w0.heap.size ≤ g) (h' : ∀ k, k ≠ g → w'.heap[k]? = w.heap[k]?) (hs : w'.heap.size = w.heap.size) (ho : w'.os = w.os) (ht : w'.tape = w.tape) (hp : w'.output = w.output) : w0.grownBy w' (some bt) :=
  ⟨ho.trans h.os, ht.trans h.tape, hp.trans h.output, by rw [hs]; exact h.size, fun i hi hr => (h' i (by omega)).trans (h.block i hi hr)⟩
theorem grown_set {w0 w : World} {bt g j : Nat} {v : Value} (h : w0.grownBy w (some bt)) (hg : w0.heap.size ≤ g) : w0.grownBy (w.setCell ⟨g, j, none⟩ v) (some bt) :=
  ⟨h.os, h.tape, h.output, by have := h.size; simpa using this, fun i hi hr => (Below.heap_setCell _ _ _ _ (by show i ≠ g; omega)).trans (h.block i hi hr)⟩
theorem sgn_shift1 {n : Nat} (hn : n < 256) : wrap64 ((n : Int) * 72057594037927936) / 72057594037927936 = sgnN n 1 := by
  unfold sgnN
  rw [show (256 : Nat) ^ 1 = 256 from rfl]
  unfold wrap64
  split <;> omega
theorem sgn_shift2 {n : Nat} (hn : n < 65536) : wrap64 ((n : Int) * 281474976710656) / 281474976710656 = sgnN n 2 := by
  unfold sgnN
  rw [show (256 : Nat) ^ 2 = 65536 from rfl]
  unfold wrap64
  split <;> omega
theorem sgn_shift4 {n : Nat} (hn : n < 4294967296) : wrap64 ((n : Int) * 4294967296) / 4294967296 = sgnN n 4 := by
  unfold sgnN
  rw [show (256 : Nat) ^ 4 = 4294967296 from rfl]
  unfold wrap64
  split <;> omega
theorem sgn_shift8 {n : Nat} (hn : n < 18446744073709551616) : wrap64 (n : Int) = sgnN n 8 := by
  unfold sgnN
  rw [show (256 : Nat) ^ 8 = 18446744073709551616 from rfl]
  unfold wrap64
  split <;> omega
theorem sgn_wrap8 {n : Nat} (hn : n < 18446744073709551616) : wrap64 (sgnN n 8) = sgnN n 8 := by
  rw [← sgn_shift8 hn]
  unfold wrap64
  omega
set_option maxRecDepth 100000 in
set_option maxHeartbeats 1000000 in
theorem readInt1_yes (name : ByteArray) (null : Bool) (bt : Nat) (s : List UInt8) (hk : 1 ≤ s.length) (w : World) (h : TapeAt w bt s) : Calls Tryz.prog 111 #[.agg #[.string name, .int .i64 1, .int .i64 1, .bool null], .pointer (some ⟨bt, 0, none⟩)] w (GivesVal ⟨1, sgnN (numN (s.take 1)) 1, 0, ⟨#[]⟩⟩ (s.drop 1) bt w) := by
  have hbt := h.lt
  have hb0 : Bel w ((w.alloc (.cells #[.string name, .int .i64 1, .int .i64 1, .bool null] 44)).alloc (.cells #[.int .i64 0, .int .i64 0, .int .u64 0, .string ⟨#[]⟩] 48)) := ((Bel.refl w).alloc _).alloc _
  have h0 := h.bel hb0
  have HCL : Hid (∀ V, ((w.alloc (.cells #[.string name, .int .i64 1, .int .i64 1, .bool null] 44)).alloc (.cells #[.int .i64 0, .int .i64 0, .int .u64 0, .string ⟨#[]⟩] 48)).grownBy V (some bt) → V.cell? ⟨w.heap.size, 2, none⟩ = some (.int .i64 1) ∧ (V.cell? ⟨w.heap.size + 1, 0, none⟩ = some (.int .i64 0) ∧ V.cell? ⟨w.heap.size + 1, 1, none⟩ = some (.int .i64 0) ∧ V.cell? ⟨w.heap.size + 1, 2, none⟩ = some (.int .u64 0) ∧ V.cell? ⟨w.heap.size + 1, 3, none⟩ = some (.string ⟨#[]⟩)) ∧ (V.frozen? ⟨w.heap.size + 1, 0, none⟩ = false ∧ V.frozen? ⟨w.heap.size + 1, 1, none⟩ = false ∧ V.frozen? ⟨w.heap.size + 1, 2, none⟩ = false ∧ V.frozen? ⟨w.heap.size + 1, 3, none⟩ = false) ∧ w.heap.size + 2 ≤ V.heap.size ∧ w.grownBy V (some bt)) := fun V hg => by
    have hne0 : some w.heap.size ≠ some bt := fun e => by have := Option.some.inj e; omega
    have hne1 : some (w.heap.size + 1) ≠ some bt := fun e => by have := Option.some.inj e; omega
    have hsz := hg.size
    exact ⟨grown_c hg (by go_simp) hne0, ⟨grown_c hg (by go_simp) hne1, grown_c hg (by go_simp) hne1, grown_c hg (by go_simp) hne1, grown_c hg (by go_simp) hne1⟩, ⟨grown_f hg (v := .int .i64 0) (by go_simp) (by go_simp) hne1, grown_f hg (v := .int .i64 0) (by go_simp) (by go_simp) hne1, grown_f hg (v := .int .u64 0) (by go_simp) (by go_simp) hne1, grown_f hg (v := .string ⟨#[]⟩) (by go_simp) (by go_simp) hne1⟩, by simpa using hsz, grown_trans (hb0.grown _) hg⟩
  have HT := Lib.hid (take_yes bt s 1 hk ((w.alloc (.cells #[.string name, .int .i64 1, .int .i64 1, .bool null] 44)).alloc (.cells #[.int .i64 0, .int .i64 0, .int .u64 0, .string ⟨#[]⟩] 48)) h0)
  have hl : (s.take 1).length = 1 := by rw [List.length_take]; omega
  have hlt := numN_lt (s.take 1)
  rw [hl] at hlt
  have HRF := Lib.hid (fun (V : World) (A : Option Addr) (hr : Reads V V.heap.size 1 A (s.take 1).length ((s.take 1).map bv)) => readFixed_any (s.take 1) A 1 (by omega) (by omega) V hr)
  rw [hl] at HRF
  have hsg := sgn_shift1 hlt
  have hnI : (numN (s.take 1) : Int) ≤ 255 := by rw [show (256 : Nat) ^ 1 = 255 + 1 by decide] at hlt; omega
  clear hb0 h0 hl hlt hk
  generalize sgnN (numN (s.take 1)) 1 = r at *
  generalize numN (s.take 1) = n at *
  go_enter Tryz.func111, Tryz.ntmps111
  go_wp2_with fail
  refine HT.out.mono ?_
  rintro e w2 ⟨A2, rfl, hr2, ht2, hg2⟩
  obtain ⟨d2, ⟨r0, r1, r2, r3⟩, ⟨f0, f1, f2, f3⟩, hs2, hgw⟩ := HCL.out w2 hg2
  have hr3 := hr2.more (B' := w2.heap.size) (Nat.le_of_lt ht2.lt)
  have HTT := Lib.hid ht2
  have HGW := Lib.hid hgw
  clear hr2 ht2 hg2 hgw
  go_wp2_with fail
  refine (HRF.out _ _ hr3).mono ?_
  rintro e w' ⟨rfl, rfl⟩
  clear hr3
  go_wp2
  refine bodyPost_ret (v := .agg #[.int .i64 1, .int .i64 r, .int .u64 0, .string ⟨#[]⟩]) (by simp [results, Tryz.results111, go_sem, r0, r1, r2, r3]) rfl ⟨rfl, ?_, ?_⟩
  · exact (((HTT.out.setCell (by show bt < w.heap.size + 1; omega) _).setCell (by show bt < w.heap.size + 1; omega) _).setCell (by show bt < w.heap.size + 1; omega) _).setCell (by show bt < w.heap.size + 1; omega) _
  · exact grown_set (grown_set (grown_set (grown_set HGW.out (by omega)) (by omega)) (by omega)) (by omega)
set_option maxRecDepth 100000 in
set_option maxHeartbeats 1000000 in
theorem readInt2_yes (name : ByteArray) (null : Bool) (bt : Nat) (s : List UInt8) (hk : 2 ≤ s.length) (w : World) (h : TapeAt w bt s) : Calls Tryz.prog 111 #[.agg #[.string name, .int .i64 1, .int .i64 2, .bool null], .pointer (some ⟨bt, 0, none⟩)] w (GivesVal ⟨1, sgnN (numN (s.take 2)) 2, 0, ⟨#[]⟩⟩ (s.drop 2) bt w) := by
  have hbt := h.lt
  have hb0 : Bel w ((w.alloc (.cells #[.string name, .int .i64 1, .int .i64 2, .bool null] 44)).alloc (.cells #[.int .i64 0, .int .i64 0, .int .u64 0, .string ⟨#[]⟩] 48)) := ((Bel.refl w).alloc _).alloc _
  have h0 := h.bel hb0
  have HCL : Hid (∀ V, ((w.alloc (.cells #[.string name, .int .i64 1, .int .i64 2, .bool null] 44)).alloc (.cells #[.int .i64 0, .int .i64 0, .int .u64 0, .string ⟨#[]⟩] 48)).grownBy V (some bt) → V.cell? ⟨w.heap.size, 2, none⟩ = some (.int .i64 2) ∧ (V.cell? ⟨w.heap.size + 1, 0, none⟩ = some (.int .i64 0) ∧ V.cell? ⟨w.heap.size + 1, 1, none⟩ = some (.int .i64 0) ∧ V.cell? ⟨w.heap.size + 1, 2, none⟩ = some (.int .u64 0) ∧ V.cell? ⟨w.heap.size + 1, 3, none⟩ = some (.string ⟨#[]⟩)) ∧ (V.frozen? ⟨w.heap.size + 1, 0, none⟩ = false ∧ V.frozen? ⟨w.heap.size + 1, 1, none⟩ = false ∧ V.frozen? ⟨w.heap.size + 1, 2, none⟩ = false ∧ V.frozen? ⟨w.heap.size + 1, 3, none⟩ = false) ∧ w.heap.size + 2 ≤ V.heap.size ∧ w.grownBy V (some bt)) := fun V hg => by
    have hne0 : some w.heap.size ≠ some bt := fun e => by have := Option.some.inj e; omega
    have hne1 : some (w.heap.size + 1) ≠ some bt := fun e => by have := Option.some.inj e; omega
    have hsz := hg.size
    exact ⟨grown_c hg (by go_simp) hne0, ⟨grown_c hg (by go_simp) hne1, grown_c hg (by go_simp) hne1, grown_c hg (by go_simp) hne1, grown_c hg (by go_simp) hne1⟩, ⟨grown_f hg (v := .int .i64 0) (by go_simp) (by go_simp) hne1, grown_f hg (v := .int .i64 0) (by go_simp) (by go_simp) hne1, grown_f hg (v := .int .u64 0) (by go_simp) (by go_simp) hne1, grown_f hg (v := .string ⟨#[]⟩) (by go_simp) (by go_simp) hne1⟩, by simpa using hsz, grown_trans (hb0.grown _) hg⟩
  have HT := Lib.hid (take_yes bt s 2 hk ((w.alloc (.cells #[.string name, .int .i64 1, .int .i64 2, .bool null] 44)).alloc (.cells #[.int .i64 0, .int .i64 0, .int .u64 0, .string ⟨#[]⟩] 48)) h0)
  have hl : (s.take 2).length = 2 := by rw [List.length_take]; omega
  have hlt := numN_lt (s.take 2)
  rw [hl] at hlt
  have HRF := Lib.hid (fun (V : World) (A : Option Addr) (hr : Reads V V.heap.size 1 A (s.take 2).length ((s.take 2).map bv)) => readFixed_any (s.take 2) A 2 (by omega) (by omega) V hr)
  rw [hl] at HRF
  have hsg := sgn_shift2 hlt
  have hnI : (numN (s.take 2) : Int) ≤ 65535 := by rw [show (256 : Nat) ^ 2 = 65535 + 1 by decide] at hlt; omega
  clear hb0 h0 hl hlt hk
  generalize sgnN (numN (s.take 2)) 2 = r at *
  generalize numN (s.take 2) = n at *
  go_enter Tryz.func111, Tryz.ntmps111
  go_wp2_with fail
  refine HT.out.mono ?_
  rintro e w2 ⟨A2, rfl, hr2, ht2, hg2⟩
  obtain ⟨d2, ⟨r0, r1, r2, r3⟩, ⟨f0, f1, f2, f3⟩, hs2, hgw⟩ := HCL.out w2 hg2
  have hr3 := hr2.more (B' := w2.heap.size) (Nat.le_of_lt ht2.lt)
  have HTT := Lib.hid ht2
  have HGW := Lib.hid hgw
  clear hr2 ht2 hg2 hgw
  go_wp2_with fail
  refine (HRF.out _ _ hr3).mono ?_
  rintro e w' ⟨rfl, rfl⟩
  clear hr3
  go_wp2
  refine bodyPost_ret (v := .agg #[.int .i64 1, .int .i64 r, .int .u64 0, .string ⟨#[]⟩]) (by simp [results, Tryz.results111, go_sem, r0, r1, r2, r3]) rfl ⟨rfl, ?_, ?_⟩
  · exact (((HTT.out.setCell (by show bt < w.heap.size + 1; omega) _).setCell (by show bt < w.heap.size + 1; omega) _).setCell (by show bt < w.heap.size + 1; omega) _).setCell (by show bt < w.heap.size + 1; omega) _
  · exact grown_set (grown_set (grown_set (grown_set HGW.out (by omega)) (by omega)) (by omega)) (by omega)
set_option maxRecDepth 100000 in
set_option maxHeartbeats 1000000 in
theorem readInt4_yes (name : ByteArray) (null : Bool) (bt : Nat) (s : List UInt8) (hk : 4 ≤ s.length) (w : World) (h : TapeAt w bt s) : Calls Tryz.prog 111 #[.agg #[.string name, .int .i64 1, .int .i64 4, .bool null], .pointer (some ⟨bt, 0, none⟩)] w (GivesVal ⟨1, sgnN (numN (s.take 4)) 4, 0, ⟨#[]⟩⟩ (s.drop 4) bt w) := by
  have hbt := h.lt
  have hb0 : Bel w ((w.alloc (.cells #[.string name, .int .i64 1, .int .i64 4, .bool null] 44)).alloc (.cells #[.int .i64 0, .int .i64 0, .int .u64 0, .string ⟨#[]⟩] 48)) := ((Bel.refl w).alloc _).alloc _
  have h0 := h.bel hb0
  have HCL : Hid (∀ V, ((w.alloc (.cells #[.string name, .int .i64 1, .int .i64 4, .bool null] 44)).alloc (.cells #[.int .i64 0, .int .i64 0, .int .u64 0, .string ⟨#[]⟩] 48)).grownBy V (some bt) → V.cell? ⟨w.heap.size, 2, none⟩ = some (.int .i64 4) ∧ (V.cell? ⟨w.heap.size + 1, 0, none⟩ = some (.int .i64 0) ∧ V.cell? ⟨w.heap.size + 1, 1, none⟩ = some (.int .i64 0) ∧ V.cell? ⟨w.heap.size + 1, 2, none⟩ = some (.int .u64 0) ∧ V.cell? ⟨w.heap.size + 1, 3, none⟩ = some (.string ⟨#[]⟩)) ∧ (V.frozen? ⟨w.heap.size + 1, 0, none⟩ = false ∧ V.frozen? ⟨w.heap.size + 1, 1, none⟩ = false ∧ V.frozen? ⟨w.heap.size + 1, 2, none⟩ = false ∧ V.frozen? ⟨w.heap.size + 1, 3, none⟩ = false) ∧ w.heap.size + 2 ≤ V.heap.size ∧ w.grownBy V (some bt)) := fun V hg => by
    have hne0 : some w.heap.size ≠ some bt := fun e => by have := Option.some.inj e; omega
    have hne1 : some (w.heap.size + 1) ≠ some bt := fun e => by have := Option.some.inj e; omega
    have hsz := hg.size
    exact ⟨grown_c hg (by go_simp) hne0, ⟨grown_c hg (by go_simp) hne1, grown_c hg (by go_simp) hne1, grown_c hg (by go_simp) hne1, grown_c hg (by go_simp) hne1⟩, ⟨grown_f hg (v := .int .i64 0) (by go_simp) (by go_simp) hne1, grown_f hg (v := .int .i64 0) (by go_simp) (by go_simp) hne1, grown_f hg (v := .int .u64 0) (by go_simp) (by go_simp) hne1, grown_f hg (v := .string ⟨#[]⟩) (by go_simp) (by go_simp) hne1⟩, by simpa using hsz, grown_trans (hb0.grown _) hg⟩
  have HT := Lib.hid (take_yes bt s 4 hk ((w.alloc (.cells #[.string name, .int .i64 1, .int .i64 4, .bool null] 44)).alloc (.cells #[.int .i64 0, .int .i64 0, .int .u64 0, .string ⟨#[]⟩] 48)) h0)
  have hl : (s.take 4).length = 4 := by rw [List.length_take]; omega
  have hlt := numN_lt (s.take 4)
  rw [hl] at hlt
  have HRF := Lib.hid (fun (V : World) (A : Option Addr) (hr : Reads V V.heap.size 1 A (s.take 4).length ((s.take 4).map bv)) => readFixed_any (s.take 4) A 4 (by omega) (by omega) V hr)
  rw [hl] at HRF
  have hsg := sgn_shift4 hlt
  have hnI : (numN (s.take 4) : Int) ≤ 4294967295 := by rw [show (256 : Nat) ^ 4 = 4294967295 + 1 by decide] at hlt; omega
  clear hb0 h0 hl hlt hk
  generalize sgnN (numN (s.take 4)) 4 = r at *
  generalize numN (s.take 4) = n at *
  go_enter Tryz.func111, Tryz.ntmps111
  go_wp2_with fail
  refine HT.out.mono ?_
  rintro e w2 ⟨A2, rfl, hr2, ht2, hg2⟩
  obtain ⟨d2, ⟨r0, r1, r2, r3⟩, ⟨f0, f1, f2, f3⟩, hs2, hgw⟩ := HCL.out w2 hg2
  have hr3 := hr2.more (B' := w2.heap.size) (Nat.le_of_lt ht2.lt)
  have HTT := Lib.hid ht2
  have HGW := Lib.hid hgw
  clear hr2 ht2 hg2 hgw
  go_wp2_with fail
  refine (HRF.out _ _ hr3).mono ?_
  rintro e w' ⟨rfl, rfl⟩
  clear hr3
  go_wp2
  refine bodyPost_ret (v := .agg #[.int .i64 1, .int .i64 r, .int .u64 0, .string ⟨#[]⟩]) (by simp [results, Tryz.results111, go_sem, r0, r1, r2, r3]) rfl ⟨rfl, ?_, ?_⟩
  · exact (((HTT.out.setCell (by show bt < w.heap.size + 1; omega) _).setCell (by show bt < w.heap.size + 1; omega) _).setCell (by show bt < w.heap.size + 1; omega) _).setCell (by show bt < w.heap.size + 1; omega) _
  · exact grown_set (grown_set (grown_set (grown_set HGW.out (by omega)) (by omega)) (by omega)) (by omega)
set_option maxRecDepth 100000 in
set_option maxHeartbeats 1000000 in
theorem readInt8_yes (name : ByteArray) (null : Bool) (bt : Nat) (s : List UInt8) (hk : 8 ≤ s.length) (w : World) (h : TapeAt w bt s) : Calls Tryz.prog 111 #[.agg #[.string name, .int .i64 1, .int .i64 8, .bool null], .pointer (some ⟨bt, 0, none⟩)] w (GivesVal ⟨1, sgnN (numN (s.take 8)) 8, 0, ⟨#[]⟩⟩ (s.drop 8) bt w) := by
  have hbt := h.lt
  have hb0 : Bel w ((w.alloc (.cells #[.string name, .int .i64 1, .int .i64 8, .bool null] 44)).alloc (.cells #[.int .i64 0, .int .i64 0, .int .u64 0, .string ⟨#[]⟩] 48)) := ((Bel.refl w).alloc _).alloc _
  have h0 := h.bel hb0
  have HCL : Hid (∀ V, ((w.alloc (.cells #[.string name, .int .i64 1, .int .i64 8, .bool null] 44)).alloc (.cells #[.int .i64 0, .int .i64 0, .int .u64 0, .string ⟨#[]⟩] 48)).grownBy V (some bt) → V.cell? ⟨w.heap.size, 2, none⟩ = some (.int .i64 8) ∧ (V.cell? ⟨w.heap.size + 1, 0, none⟩ = some (.int .i64 0) ∧ V.cell? ⟨w.heap.size + 1, 1, none⟩ = some (.int .i64 0) ∧ V.cell? ⟨w.heap.size + 1, 2, none⟩ = some (.int .u64 0) ∧ V.cell? ⟨w.heap.size + 1, 3, none⟩ = some (.string ⟨#[]⟩)) ∧ (V.frozen? ⟨w.heap.size + 1, 0, none⟩ = false ∧ V.frozen? ⟨w.heap.size + 1, 1, none⟩ = false ∧ V.frozen? ⟨w.heap.size + 1, 2, none⟩ = false ∧ V.frozen? ⟨w.heap.size + 1, 3, none⟩ = false) ∧ w.heap.size + 2 ≤ V.heap.size ∧ w.grownBy V (some bt)) := fun V hg => by
    have hne0 : some w.heap.size ≠ some bt := fun e => by have := Option.some.inj e; omega
    have hne1 : some (w.heap.size + 1) ≠ some bt := fun e => by have := Option.some.inj e; omega
    have hsz := hg.size
    exact ⟨grown_c hg (by go_simp) hne0, ⟨grown_c hg (by go_simp) hne1, grown_c hg (by go_simp) hne1, grown_c hg (by go_simp) hne1, grown_c hg (by go_simp) hne1⟩, ⟨grown_f hg (v := .int .i64 0) (by go_simp) (by go_simp) hne1, grown_f hg (v := .int .i64 0) (by go_simp) (by go_simp) hne1, grown_f hg (v := .int .u64 0) (by go_simp) (by go_simp) hne1, grown_f hg (v := .string ⟨#[]⟩) (by go_simp) (by go_simp) hne1⟩, by simpa using hsz, grown_trans (hb0.grown _) hg⟩
  have HT := Lib.hid (take_yes bt s 8 hk ((w.alloc (.cells #[.string name, .int .i64 1, .int .i64 8, .bool null] 44)).alloc (.cells #[.int .i64 0, .int .i64 0, .int .u64 0, .string ⟨#[]⟩] 48)) h0)
  have hl : (s.take 8).length = 8 := by rw [List.length_take]; omega
  have hlt := numN_lt (s.take 8)
  rw [hl] at hlt
  have HRF := Lib.hid (fun (V : World) (A : Option Addr) (hr : Reads V V.heap.size 1 A (s.take 8).length ((s.take 8).map bv)) => readFixed_any (s.take 8) A 8 (by omega) (by omega) V hr)
  rw [hl] at HRF
  have hsg := sgn_shift8 hlt
  have hnI : (numN (s.take 8) : Int) ≤ 18446744073709551615 := by rw [show (256 : Nat) ^ 8 = 18446744073709551615 + 1 by decide] at hlt; omega
  have hsg2 := sgn_wrap8 hlt
  clear hb0 h0 hl hlt hk
  generalize sgnN (numN (s.take 8)) 8 = r at *
  generalize numN (s.take 8) = n at *
  go_enter Tryz.func111, Tryz.ntmps111
  go_wp2_with fail
  refine HT.out.mono ?_
  rintro e w2 ⟨A2, rfl, hr2, ht2, hg2⟩
  obtain ⟨d2, ⟨r0, r1, r2, r3⟩, ⟨f0, f1, f2, f3⟩, hs2, hgw⟩ := HCL.out w2 hg2
  have hr3 := hr2.more (B' := w2.heap.size) (Nat.le_of_lt ht2.lt)
  have HTT := Lib.hid ht2
  have HGW := Lib.hid hgw
  clear hr2 ht2 hg2 hgw
  go_wp2_with fail
  refine (HRF.out _ _ hr3).mono ?_
  rintro e w' ⟨rfl, rfl⟩
  clear hr3
  go_wp2
  refine bodyPost_ret (v := .agg #[.int .i64 1, .int .i64 r, .int .u64 0, .string ⟨#[]⟩]) (by simp [results, Tryz.results111, go_sem, r0, r1, r2, r3]) rfl ⟨rfl, ?_, ?_⟩
  · exact (((HTT.out.setCell (by show bt < w.heap.size + 1; omega) _).setCell (by show bt < w.heap.size + 1; omega) _).setCell (by show bt < w.heap.size + 1; omega) _).setCell (by show bt < w.heap.size + 1; omega) _
  · exact grown_set (grown_set (grown_set (grown_set HGW.out (by omega)) (by omega)) (by omega)) (by omega)
set_option maxRecDepth 100000 in
set_option maxHeartbeats 1000000 in
theorem readInt_no (name : ByteArray) (null : Bool) (z : Nat) (hz : z ≤ 8) (bt : Nat) (s : List UInt8) (hk : s.length < z) (w : World) (h : TapeAt w bt s) : Calls Tryz.prog 111 #[.agg #[.string name, .int .i64 1, .int .i64 z, .bool null], .pointer (some ⟨bt, 0, none⟩)] w (GaveUp bt w) := by
  have hb0 : Bel w ((w.alloc (.cells #[.string name, .int .i64 1, .int .i64 z, .bool null] 44)).alloc (.cells #[.int .i64 0, .int .i64 0, .int .u64 0, .string ⟨#[]⟩] 48)) := ((Bel.refl w).alloc _).alloc _
  have HT := Lib.hid (take_no bt s z hk (by omega) ((w.alloc (.cells #[.string name, .int .i64 1, .int .i64 z, .bool null] 44)).alloc (.cells #[.int .i64 0, .int .i64 0, .int .u64 0, .string ⟨#[]⟩] 48)) (h.bel hb0))
  have hzI : (z : Int) ≤ 8 := by omega
  clear hk
  go_enter Tryz.func111, Tryz.ntmps111
  go_wp2_with (go_at_call 113; refine HT.out.mono ?_; rintro e w' ⟨rfl, rfl⟩)
  exact ⟨rfl, rfl, hb0.grown _⟩
set_option maxRecDepth 100000 in
set_option maxHeartbeats 1000000 in
theorem readUint_no (name : ByteArray) (null : Bool) (z : Nat) (hz : z ≤ 8) (bt : Nat) (s : List UInt8) (hk : s.length < z) (w : World) (h : TapeAt w bt s) : Calls Tryz.prog 116 #[.agg #[.string name, .int .i64 2, .int .i64 z, .bool null], .pointer (some ⟨bt, 0, none⟩)] w (GaveUp bt w) := by
  have hb0 : Bel w ((w.alloc (.cells #[.string name, .int .i64 2, .int .i64 z, .bool null] 44)).alloc (.cells #[.int .i64 0, .int .i64 0, .int .u64 0, .string ⟨#[]⟩] 48)) := ((Bel.refl w).alloc _).alloc _
  have HT := Lib.hid (take_no bt s z hk (by omega) ((w.alloc (.cells #[.string name, .int .i64 2, .int .i64 z, .bool null] 44)).alloc (.cells #[.int .i64 0, .int .i64 0, .int .u64 0, .string ⟨#[]⟩] 48)) (h.bel hb0))
  have hzI : (z : Int) ≤ 8 := by omega
  clear hk
  go_enter Tryz.func116, Tryz.ntmps116
  go_wp2_with (go_at_call 113; refine HT.out.mono ?_; rintro e w' ⟨rfl, rfl⟩)
  exact ⟨rfl, rfl, hb0.grown _⟩
set_option maxRecDepth 100000 in
set_option maxHeartbeats 1000000 in
theorem readUint_yes (name : ByteArray) (null : Bool) (z : Nat) (h1 : 1 ≤ z) (h8 : z ≤ 8) (bt : Nat) (s : List UInt8) (hk : z ≤ s.length) (w : World) (h : TapeAt w bt s) : Calls Tryz.prog 116 #[.agg #[.string name, .int .i64 2, .int .i64 z, .bool null], .pointer (some ⟨bt, 0, none⟩)] w (GivesVal ⟨2, 0, numN (s.take z), ⟨#[]⟩⟩ (s.drop z) bt w) := by
  have hbt := h.lt
  have hb0 : Bel w ((w.alloc (.cells #[.string name, .int .i64 2, .int .i64 z, .bool null] 44)).alloc (.cells #[.int .i64 0, .int .i64 0, .int .u64 0, .string ⟨#[]⟩] 48)) := ((Bel.refl w).alloc _).alloc _
  have h0 := h.bel hb0
  have HCL : Hid (∀ V, ((w.alloc (.cells #[.string name, .int .i64 2, .int .i64 z, .bool null] 44)).alloc (.cells #[.int .i64 0, .int .i64 0, .int .u64 0, .string ⟨#[]⟩] 48)).grownBy V (some bt) → V.cell? ⟨w.heap.size, 2, none⟩ = some (.int .i64 z) ∧ (V.cell? ⟨w.heap.size + 1, 0, none⟩ = some (.int .i64 0) ∧ V.cell? ⟨w.heap.size + 1, 1, none⟩ = some (.int .i64 0) ∧ V.cell? ⟨w.heap.size + 1, 2, none⟩ = some (.int .u64 0) ∧ V.cell? ⟨w.heap.size + 1, 3, none⟩ = some (.string ⟨#[]⟩)) ∧ (V.frozen? ⟨w.heap.size + 1, 0, none⟩ = false ∧ V.frozen? ⟨w.heap.size + 1, 1, none⟩ = false ∧ V.frozen? ⟨w.heap.size + 1, 2, none⟩ = false ∧ V.frozen? ⟨w.heap.size + 1, 3, none⟩ = false) ∧ w.heap.size + 2 ≤ V.heap.size ∧ w.grownBy V (some bt)) := fun V hg => by
    have hne0 : some w.heap.size ≠ some bt := fun e => by have := Option.some.inj e; omega
    have hne1 : some (w.heap.size + 1) ≠ some bt := fun e => by have := Option.some.inj e; omega
    have hsz := hg.size
    exact ⟨grown_c hg (by go_simp) hne0, ⟨grown_c hg (by go_simp) hne1, grown_c hg (by go_simp) hne1, grown_c hg (by go_simp) hne1, grown_c hg (by go_simp) hne1⟩, ⟨grown_f hg (v := .int .i64 0) (by go_simp) (by go_simp) hne1, grown_f hg (v := .int .i64 0) (by go_simp) (by go_simp) hne1, grown_f hg (v := .int .u64 0) (by go_simp) (by go_simp) hne1, grown_f hg (v := .string ⟨#[]⟩) (by go_simp) (by go_simp) hne1⟩, by simpa using hsz, grown_trans (hb0.grown _) hg⟩
  have HT := Lib.hid (take_yes bt s z hk ((w.alloc (.cells #[.string name, .int .i64 2, .int .i64 z, .bool null] 44)).alloc (.cells #[.int .i64 0, .int .i64 0, .int .u64 0, .string ⟨#[]⟩] 48)) h0)
  have hl : (s.take z).length = z := by rw [List.length_take]; omega
  have HRF := Lib.hid (fun (V : World) (A : Option Addr) (hr : Reads V V.heap.size 1 A (s.take z).length ((s.take z).map bv)) => readFixed_any (s.take z) A z (by omega) (by omega) V hr)
  rw [hl] at HRF
  have hzI : (z : Int) ≤ 8 := by omega
  have hzI1 : (1 : Int) ≤ z := by omega
  clear hb0 h0 hl hk
  generalize numN (s.take z) = n at *
  go_enter Tryz.func116, Tryz.ntmps116
  go_wp2_with fail
  refine HT.out.mono ?_
  rintro e w2 ⟨A2, rfl, hr2, ht2, hg2⟩
  obtain ⟨d2, ⟨r0, r1, r2, r3⟩, ⟨f0, f1, f2, f3⟩, hs2, hgw⟩ := HCL.out w2 hg2
  have hr3 := hr2.more (B' := w2.heap.size) (Nat.le_of_lt ht2.lt)
  have HTT := Lib.hid ht2
  have HGW := Lib.hid hgw
  clear hr2 ht2 hg2 hgw
  go_wp2_with fail
  refine (HRF.out _ _ hr3).mono ?_
  rintro e w' ⟨rfl, rfl⟩
  clear hr3
  go_wp2
  refine bodyPost_ret (v := .agg #[.int .i64 2, .int .i64 0, .int .u64 n, .string ⟨#[]⟩]) (by simp [results, Tryz.results116, go_sem, r0, r1, r2, r3]) rfl ⟨rfl, ?_, ?_⟩
  · exact (((HTT.out.setCell (by show bt < w.heap.size + 1; omega) _).setCell (by show bt < w.heap.size + 1; omega) _).setCell (by show bt < w.heap.size + 1; omega) _).setCell (by show bt < w.heap.size + 1; omega) _
  · exact grown_set (grown_set (grown_set (grown_set HGW.out (by omega)) (by omega)) (by omega)) (by omega)
set_option maxRecDepth 100000 in
set_option maxHeartbeats 1000000 in
theorem readBool_none (name : ByteArray) (z : Int) (null : Bool) (bt : Nat) (w : World) (h : TapeAt w bt []) : Calls Tryz.prog 118 #[.agg #[.string name, .int .i64 3, .int .i64 z, .bool null], .pointer (some ⟨bt, 0, none⟩)] w (GaveUp bt w) := by
  have hb0 : Bel w ((w.alloc (.cells #[.string name, .int .i64 3, .int .i64 z, .bool null] 44)).alloc (.cells #[.int .i64 0, .int .i64 0, .int .u64 0, .string ⟨#[]⟩] 48)) := ((Bel.refl w).alloc _).alloc _
  have HT := Lib.hid (take_no bt [] 1 (by simp) (by omega) ((w.alloc (.cells #[.string name, .int .i64 3, .int .i64 z, .bool null] 44)).alloc (.cells #[.int .i64 0, .int .i64 0, .int .u64 0, .string ⟨#[]⟩] 48)) (h.bel hb0))
  go_enter Tryz.func118, Tryz.ntmps118
  go_wp2_with (go_at_call 113; refine HT.out.mono ?_; rintro e w' ⟨rfl, rfl⟩)
  exact ⟨rfl, rfl, hb0.grown _⟩
set_option maxRecDepth 100000 in
set_option maxHeartbeats 1000000 in
theorem readBool_yes (name : ByteArray) (z : Int) (null : Bool) (bt : Nat) (d : UInt8) (s : List UInt8) (hd : d.toNat ≤ 1) (w : World) (h : TapeAt w bt (d :: s)) : Calls Tryz.prog 118 #[.agg #[.string name, .int .i64 3, .int .i64 z, .bool null], .pointer (some ⟨bt, 0, none⟩)] w (GivesVal ⟨3, d.toNat, 0, ⟨#[]⟩⟩ s bt w) := by
  have hbt := h.lt
  have hb0 : Bel w ((w.alloc (.cells #[.string name, .int .i64 3, .int .i64 z, .bool null] 44)).alloc (.cells #[.int .i64 0, .int .i64 0, .int .u64 0, .string ⟨#[]⟩] 48)) := ((Bel.refl w).alloc _).alloc _
  have h0 := h.bel hb0
  have HCL : Hid (∀ V, ((w.alloc (.cells #[.string name, .int .i64 3, .int .i64 z, .bool null] 44)).alloc (.cells #[.int .i64 0, .int .i64 0, .int .u64 0, .string ⟨#[]⟩] 48)).grownBy V (some bt) → V.cell? ⟨w.heap.size, 2, none⟩ = some (.int .i64 z) ∧ (V.cell? ⟨w.heap.size + 1, 0, none⟩ = some (.int .i64 0) ∧ V.cell? ⟨w.heap.size + 1, 1, none⟩ = some (.int .i64 0) ∧ V.cell? ⟨w.heap.size + 1, 2, none⟩ = some (.int .u64 0) ∧ V.cell? ⟨w.heap.size + 1, 3, none⟩ = some (.string ⟨#[]⟩)) ∧ (V.frozen? ⟨w.heap.size + 1, 0, none⟩ = false ∧ V.frozen? ⟨w.heap.size + 1, 1, none⟩ = false ∧ V.frozen? ⟨w.heap.size + 1, 2, none⟩ = false ∧ V.frozen? ⟨w.heap.size + 1, 3, none⟩ = false) ∧ w.heap.size + 2 ≤ V.heap.size ∧ w.grownBy V (some bt)) := fun V hg => by
    have hne0 : some w.heap.size ≠ some bt := fun e => by have := Option.some.inj e; omega
    have hne1 : some (w.heap.size + 1) ≠ some bt := fun e => by have := Option.some.inj e; omega
    have hsz := hg.size
    exact ⟨grown_c hg (by go_simp) hne0, ⟨grown_c hg (by go_simp) hne1, grown_c hg (by go_simp) hne1, grown_c hg (by go_simp) hne1, grown_c hg (by go_simp) hne1⟩, ⟨grown_f hg (v := .int .i64 0) (by go_simp) (by go_simp) hne1, grown_f hg (v := .int .i64 0) (by go_simp) (by go_simp) hne1, grown_f hg (v := .int .u64 0) (by go_simp) (by go_simp) hne1, grown_f hg (v := .string ⟨#[]⟩) (by go_simp) (by go_simp) hne1⟩, by simpa using hsz, grown_trans (hb0.grown _) hg⟩
  have HT := Lib.hid (take_yes bt (d :: s) 1 (by simp) ((w.alloc (.cells #[.string name, .int .i64 3, .int .i64 z, .bool null] 44)).alloc (.cells #[.int .i64 0, .int .i64 0, .int .u64 0, .string ⟨#[]⟩] 48)) h0)
  have hdI : (d.toNat : Int) ≤ 255 := by have := d.toNat_lt; omega
  have hdB : decide ((d.toNat : Int) ≤ 1) = true := by simp; omega
  clear hb0 h0
  go_enter Tryz.func118, Tryz.ntmps118
  go_wp2_with fail
  refine HT.out.mono ?_
  rintro e w2 ⟨A2, rfl, hr2, ht2, hg2⟩
  obtain ⟨d2, ⟨r0, r1, r2, r3⟩, ⟨f0, f1, f2, f3⟩, hs2, hgw⟩ := HCL.out w2 hg2
  have HTT := Lib.hid ht2
  have HGW := Lib.hid hgw
  obtain ⟨ad, rfl, -, hcc⟩ := hr2.2 (by omega)
  have hc0' : w2.cell? ad = some (bv d) := by have := hcc 0 (bv d) (by simp); simpa [Addr.add] using this
  have hc0 : w2.cell? ad = some (.int .u8 d.toNat) := hc0'
  clear hc0'
  obtain ⟨ab, ao, asp⟩ := ad
  obtain rfl : asp = none := World.cell?_spot hc0
  clear hr2 ht2 hg2 hgw hcc
  generalize d.toNat = D at *
  go_wp2_with (go_at_call 87; refine (must_yes _).mono ?_; rintro e w' ⟨rfl, rfl⟩)
  refine bodyPost_ret (v := .agg #[.int .i64 3, .int .i64 D, .int .u64 0, .string ⟨#[]⟩]) (by simp [results, Tryz.results118, go_sem, r0, r1, r2, r3]) rfl ⟨rfl, ?_, ?_⟩
  · exact (((HTT.out.setCell (by show bt < w.heap.size + 1; omega) _).setCell (by show bt < w.heap.size + 1; omega) _).setCell (by show bt < w.heap.size + 1; omega) _).setCell (by show bt < w.heap.size + 1; omega) _
  · exact grown_set (grown_set (grown_set (grown_set HGW.out (by omega)) (by omega)) (by omega)) (by omega)
set_option maxRecDepth 100000 in
set_option maxHeartbeats 1000000 in
theorem readBool_no (name : ByteArray) (z : Int) (null : Bool) (bt : Nat) (d : UInt8) (s : List UInt8) (hd : 1 < d.toNat) (w : World) (h : TapeAt w bt (d :: s)) : Calls Tryz.prog 118 #[.agg #[.string name, .int .i64 3, .int .i64 z, .bool null], .pointer (some ⟨bt, 0, none⟩)] w (GaveUp bt w) := by
  have hbt := h.lt
  have hb0 : Bel w ((w.alloc (.cells #[.string name, .int .i64 3, .int .i64 z, .bool null] 44)).alloc (.cells #[.int .i64 0, .int .i64 0, .int .u64 0, .string ⟨#[]⟩] 48)) := ((Bel.refl w).alloc _).alloc _
  have h0 := h.bel hb0
  have HCL : Hid (∀ V, ((w.alloc (.cells #[.string name, .int .i64 3, .int .i64 z, .bool null] 44)).alloc (.cells #[.int .i64 0, .int .i64 0, .int .u64 0, .string ⟨#[]⟩] 48)).grownBy V (some bt) → V.cell? ⟨w.heap.size, 2, none⟩ = some (.int .i64 z) ∧ (V.cell? ⟨w.heap.size + 1, 0, none⟩ = some (.int .i64 0) ∧ V.cell? ⟨w.heap.size + 1, 1, none⟩ = some (.int .i64 0) ∧ V.cell? ⟨w.heap.size + 1, 2, none⟩ = some (.int .u64 0) ∧ V.cell? ⟨w.heap.size + 1, 3, none⟩ = some (.string ⟨#[]⟩)) ∧ (V.frozen? ⟨w.heap.size + 1, 0, none⟩ = false ∧ V.frozen? ⟨w.heap.size + 1, 1, none⟩ = false ∧ V.frozen? ⟨w.heap.size + 1, 2, none⟩ = false ∧ V.frozen? ⟨w.heap.size + 1, 3, none⟩ = false) ∧ w.heap.size + 2 ≤ V.heap.size ∧ w.grownBy V (some bt)) := fun V hg => by
    have hne0 : some w.heap.size ≠ some bt := fun e => by have := Option.some.inj e; omega
    have hne1 : some (w.heap.size + 1) ≠ some bt := fun e => by have := Option.some.inj e; omega
    have hsz := hg.size
    exact ⟨grown_c hg (by go_simp) hne0, ⟨grown_c hg (by go_simp) hne1, grown_c hg (by go_simp) hne1, grown_c hg (by go_simp) hne1, grown_c hg (by go_simp) hne1⟩, ⟨grown_f hg (v := .int .i64 0) (by go_simp) (by go_simp) hne1, grown_f hg (v := .int .i64 0) (by go_simp) (by go_simp) hne1, grown_f hg (v := .int .u64 0) (by go_simp) (by go_simp) hne1, grown_f hg (v := .string ⟨#[]⟩) (by go_simp) (by go_simp) hne1⟩, by simpa using hsz, grown_trans (hb0.grown _) hg⟩
  have HT := Lib.hid (take_yes bt (d :: s) 1 (by simp) ((w.alloc (.cells #[.string name, .int .i64 3, .int .i64 z, .bool null] 44)).alloc (.cells #[.int .i64 0, .int .i64 0, .int .u64 0, .string ⟨#[]⟩] 48)) h0)
  have hdI : (d.toNat : Int) ≤ 255 := by have := d.toNat_lt; omega
  have hdB : decide ((d.toNat : Int) ≤ 1) = false := by simp; omega
  clear hb0 h0
  go_enter Tryz.func118, Tryz.ntmps118
  go_wp2_with fail
  refine HT.out.mono ?_
  rintro e w2 ⟨A2, rfl, hr2, ht2, hg2⟩
  obtain ⟨d2, ⟨r0, r1, r2, r3⟩, ⟨f0, f1, f2, f3⟩, hs2, hgw⟩ := HCL.out w2 hg2
  have HTT := Lib.hid ht2
  have HGW := Lib.hid hgw
  obtain ⟨ad, rfl, -, hcc⟩ := hr2.2 (by omega)
  have hc0' : w2.cell? ad = some (bv d) := by have := hcc 0 (bv d) (by simp); simpa [Addr.add] using this
  have hc0 : w2.cell? ad = some (.int .u8 d.toNat) := hc0'
  clear hc0'
  obtain ⟨ab, ao, asp⟩ := ad
  obtain rfl : asp = none := World.cell?_spot hc0
  clear hr2 ht2 hg2 hgw hcc
  generalize d.toNat = D at *
  go_wp2_with (go_at_call 87; refine (must_no _).mono ?_; rintro e w' ⟨rfl, rfl⟩)
  exact ⟨rfl, rfl, HGW.out⟩
set_option maxRecDepth 100000 in
set_option maxHeartbeats 1000000 in
theorem readBytes_none (name : ByteArray) (z : Int) (null : Bool) (bt : Nat) (s : List UInt8) (hs : s.length ≤ 1000000) (hr : rdText s = none) (w : World) (h : TapeAt w bt s) : Calls Tryz.prog 121 #[.agg #[.string name, .int .i64 4, .int .i64 z, .bool null], .pointer (some ⟨bt, 0, none⟩)] w (GaveUp bt w) := by
  have hb0 : Bel w ((w.alloc (.cells #[.string name, .int .i64 4, .int .i64 z, .bool null] 44)).alloc (.cells #[.int .i64 0, .int .i64 0, .int .u64 0, .string ⟨#[]⟩] 48)) := ((Bel.refl w).alloc _).alloc _
  have HT := Lib.hid (gotS_no bt s hs hr ((w.alloc (.cells #[.string name, .int .i64 4, .int .i64 z, .bool null] 44)).alloc (.cells #[.int .i64 0, .int .i64 0, .int .u64 0, .string ⟨#[]⟩] 48)) (h.bel hb0))
  go_enter Tryz.func121, Tryz.ntmps121
  go_wp2_with fail
  refine HT.out.mono ?_
  rintro e w2 ⟨rfl, hg2⟩
  go_wp2
  exact ⟨rfl, rfl, grown_trans (hb0.grown _) hg2⟩
set_option maxRecDepth 100000 in
set_option maxHeartbeats 1000000 in
theorem readBytes_yes (name : ByteArray) (z : Int) (null : Bool) (bt : Nat) (s : List UInt8) (hs : s.length ≤ 1000000) (x : List UInt8) (m : Nat) (hr : rdText s = some (x, m)) (hx : (x.length : Int) ≤ z) (w : World) (h : TapeAt w bt s) : Calls Tryz.prog 121 #[.agg #[.string name, .int .i64 4, .int .i64 z, .bool null], .pointer (some ⟨bt, 0, none⟩)] w (GivesVal ⟨4, 0, 0, ⟨x.toArray⟩⟩ (s.drop m) bt w) := by
  have hbt := h.lt
  have hb0 : Bel w ((w.alloc (.cells #[.string name, .int .i64 4, .int .i64 z, .bool null] 44)).alloc (.cells #[.int .i64 0, .int .i64 0, .int .u64 0, .string ⟨#[]⟩] 48)) := ((Bel.refl w).alloc _).alloc _
  have h0 := h.bel hb0
  have HCL : Hid (∀ V, ((w.alloc (.cells #[.string name, .int .i64 4, .int .i64 z, .bool null] 44)).alloc (.cells #[.int .i64 0, .int .i64 0, .int .u64 0, .string ⟨#[]⟩] 48)).grownBy V (some bt) → V.cell? ⟨w.heap.size, 2, none⟩ = some (.int .i64 z) ∧ (V.cell? ⟨w.heap.size + 1, 0, none⟩ = some (.int .i64 0) ∧ V.cell? ⟨w.heap.size + 1, 1, none⟩ = some (.int .i64 0) ∧ V.cell? ⟨w.heap.size + 1, 2, none⟩ = some (.int .u64 0) ∧ V.cell? ⟨w.heap.size + 1, 3, none⟩ = some (.string ⟨#[]⟩)) ∧ (V.frozen? ⟨w.heap.size + 1, 0, none⟩ = false ∧ V.frozen? ⟨w.heap.size + 1, 1, none⟩ = false ∧ V.frozen? ⟨w.heap.size + 1, 2, none⟩ = false ∧ V.frozen? ⟨w.heap.size + 1, 3, none⟩ = false) ∧ w.heap.size + 2 ≤ V.heap.size ∧ w.grownBy V (some bt)) := fun V hg => by
    have hne0 : some w.heap.size ≠ some bt := fun e => by have := Option.some.inj e; omega
    have hne1 : some (w.heap.size + 1) ≠ some bt := fun e => by have := Option.some.inj e; omega
    have hsz := hg.size
    exact ⟨grown_c hg (by go_simp) hne0, ⟨grown_c hg (by go_simp) hne1, grown_c hg (by go_simp) hne1, grown_c hg (by go_simp) hne1, grown_c hg (by go_simp) hne1⟩, ⟨grown_f hg (v := .int .i64 0) (by go_simp) (by go_simp) hne1, grown_f hg (v := .int .i64 0) (by go_simp) (by go_simp) hne1, grown_f hg (v := .int .u64 0) (by go_simp) (by go_simp) hne1, grown_f hg (v := .string ⟨#[]⟩) (by go_simp) (by go_simp) hne1⟩, by simpa using hsz, grown_trans (hb0.grown _) hg⟩
  have HT := Lib.hid (gotS_yes bt s hs x m hr ((w.alloc (.cells #[.string name, .int .i64 4, .int .i64 z, .bool null] 44)).alloc (.cells #[.int .i64 0, .int .i64 0, .int .u64 0, .string ⟨#[]⟩] 48)) h0)
  obtain ⟨-, -, -, hxs⟩ := rdText_back hr
  obtain ⟨X, hX⟩ : ∃ X : ByteArray, X = ⟨x.toArray⟩ := ⟨_, rfl⟩
  have hXs : X.size = x.length := by rw [hX]; rfl
  unfold strV at HT
  rw [← hX] at HT ⊢
  have hxB : decide ((X.size : Int) ≤ z) = true := by rw [hXs]; simp; omega
  have hXI : (X.size : Int) ≤ 1000000 := by omega
  clear hb0 h0 hX hXs hr hx hxs hs
  go_enter Tryz.func121, Tryz.ntmps121
  go_wp2_with fail
  refine HT.out.mono ?_
  rintro e w2 ⟨rfl, ht2, hg2⟩
  obtain ⟨d2, ⟨r0, r1, r2, r3⟩, ⟨f0, f1, f2, f3⟩, hs2, hgw⟩ := HCL.out w2 hg2
  have HTT := Lib.hid ht2
  have HGW := Lib.hid hgw
  clear ht2 hg2 hgw
  go_wp2_with (go_at_call 87; refine (must_yes _).mono ?_; rintro e w' ⟨rfl, rfl⟩)
  refine bodyPost_ret (v := .agg #[.int .i64 4, .int .i64 0, .int .u64 0, .string X]) (by simp [results, Tryz.results121, go_sem, r0, r1, r2, r3]) rfl ⟨rfl, ?_, ?_⟩
  · exact (((HTT.out.setCell (by show bt < w.heap.size + 1; omega) _).setCell (by show bt < w.heap.size + 1; omega) _).setCell (by show bt < w.heap.size + 1; omega) _).setCell (by show bt < w.heap.size + 1; omega) _
  · exact grown_set (grown_set (grown_set (grown_set HGW.out (by omega)) (by omega)) (by omega)) (by omega)
set_option maxRecDepth 100000 in
set_option maxHeartbeats 1000000 in
theorem readBytes_no (name : ByteArray) (z : Int) (null : Bool) (bt : Nat) (s : List UInt8) (hs : s.length ≤ 1000000) (x : List UInt8) (m : Nat) (hr : rdText s = some (x, m)) (hx : z < x.length) (w : World) (h : TapeAt w bt s) : Calls Tryz.prog 121 #[.agg #[.string name, .int .i64 4, .int .i64 z, .bool null], .pointer (some ⟨bt, 0, none⟩)] w (GaveUp bt w) := by
  have hbt := h.lt
  have hb0 : Bel w ((w.alloc (.cells #[.string name, .int .i64 4, .int .i64 z, .bool null] 44)).alloc (.cells #[.int .i64 0, .int .i64 0, .int .u64 0, .string ⟨#[]⟩] 48)) := ((Bel.refl w).alloc _).alloc _
  have h0 := h.bel hb0
  have HCL : Hid (∀ V, ((w.alloc (.cells #[.string name, .int .i64 4, .int .i64 z, .bool null] 44)).alloc (.cells #[.int .i64 0, .int .i64 0, .int .u64 0, .string ⟨#[]⟩] 48)).grownBy V (some bt) → V.cell? ⟨w.heap.size, 2, none⟩ = some (.int .i64 z) ∧ (V.cell? ⟨w.heap.size + 1, 0, none⟩ = some (.int .i64 0) ∧ V.cell? ⟨w.heap.size + 1, 1, none⟩ = some (.int .i64 0) ∧ V.cell? ⟨w.heap.size + 1, 2, none⟩ = some (.int .u64 0) ∧ V.cell? ⟨w.heap.size + 1, 3, none⟩ = some (.string ⟨#[]⟩)) ∧ (V.frozen? ⟨w.heap.size + 1, 0, none⟩ = false ∧ V.frozen? ⟨w.heap.size + 1, 1, none⟩ = false ∧ V.frozen? ⟨w.heap.size + 1, 2, none⟩ = false ∧ V.frozen? ⟨w.heap.size + 1, 3, none⟩ = false) ∧ w.heap.size + 2 ≤ V.heap.size ∧ w.grownBy V (some bt)) := fun V hg => by
    have hne0 : some w.heap.size ≠ some bt := fun e => by have := Option.some.inj e; omega
    have hne1 : some (w.heap.size + 1) ≠ some bt := fun e => by have := Option.some.inj e; omega
    have hsz := hg.size
    exact ⟨grown_c hg (by go_simp) hne0, ⟨grown_c hg (by go_simp) hne1, grown_c hg (by go_simp) hne1, grown_c hg (by go_simp) hne1, grown_c hg (by go_simp) hne1⟩, ⟨grown_f hg (v := .int .i64 0) (by go_simp) (by go_simp) hne1, grown_f hg (v := .int .i64 0) (by go_simp) (by go_simp) hne1, grown_f hg (v := .int .u64 0) (by go_simp) (by go_simp) hne1, grown_f hg (v := .string ⟨#[]⟩) (by go_simp) (by go_simp) hne1⟩, by simpa using hsz, grown_trans (hb0.grown _) hg⟩
  have HT := Lib.hid (gotS_yes bt s hs x m hr ((w.alloc (.cells #[.string name, .int .i64 4, .int .i64 z, .bool null] 44)).alloc (.cells #[.int .i64 0, .int .i64 0, .int .u64 0, .string ⟨#[]⟩] 48)) h0)
  obtain ⟨-, -, -, hxs⟩ := rdText_back hr
  obtain ⟨X, hX⟩ : ∃ X : ByteArray, X = ⟨x.toArray⟩ := ⟨_, rfl⟩
  have hXs : X.size = x.length := by rw [hX]; rfl
  unfold strV at HT
  rw [← hX] at HT
  have hxB : decide ((X.size : Int) ≤ z) = false := by rw [hXs]; simp; omega
  have hXI : (X.size : Int) ≤ 1000000 := by omega
  clear hb0 h0 hX hXs hr hx hxs hs
  go_enter Tryz.func121, Tryz.ntmps121
  go_wp2_with fail
  refine HT.out.mono ?_
  rintro e w2 ⟨rfl, ht2, hg2⟩
  obtain ⟨d2, ⟨r0, r1, r2, r3⟩, ⟨f0, f1, f2, f3⟩, hs2, hgw⟩ := HCL.out w2 hg2
  have HTT := Lib.hid ht2
  have HGW := Lib.hid hgw
  clear ht2 hg2 hgw
  go_wp2_with (go_at_call 87; refine (must_no _).mono ?_; rintro e w' ⟨rfl, rfl⟩)
  exact ⟨rfl, rfl, HGW.out⟩
end Go.Proofs.YtkklmflclmgjeaaGreatDoor

/-
  The codec: what each type reads, at any column.
-/
set_option linter.unusedVariables false
set_option linter.unusedSimpArgs false
set_option linter.unusedVariables false
set_option linter.unusedSimpArgs false
namespace Go.Proofs.YtkklmflclmgjeaaGreatDoor
open Go.RowKit Go.Shelf Go.Lib

/-- What reading a value hands back. -/
def GivesRead (o : Option (Val × Nat)) (s : List UInt8) (bt : Nat) (w : World) (e : Ending) (w' : World) : Prop := match o with
  | some (x, n) => GivesVal x (s.drop n) bt w e w'
  | none => GaveUp bt w e w'
theorem read_any (c : Col) (hr : rightB c = true) (bt : Nat) (s : List UInt8) (hs : s.length ≤ 1000000) (w : World) (h : TapeAt w bt s) : Calls Tryz.prog (readF c.t) #[c.v, .pointer (some ⟨bt, 0, none⟩)] w (GivesRead (rdBody c s) s bt w) := by
  obtain ⟨ht1, ht4, hnm, hzz⟩ := right_parts hr
  obtain ⟨name, t, z, null⟩ := c
  dsimp only at *
  have hcs : t = 1 ∨ t = 2 ∨ t = 3 ∨ t = 4 := by omega
  unfold Col.v rdBody
  dsimp only
  rcases hcs with rfl | rfl | rfl | rfl
  · rw [if_pos rfl]
    have hz := size_num (.inl rfl) hzz
    rcases hz with rfl | rfl | rfl | rfl
    · rw [show Int.toNat 1 = 1 from rfl]
      by_cases hl : s.length < 1
      · rw [if_pos hl]; exact readInt_no name null 1 (by omega) bt s hl w h
      · rw [if_neg hl]; exact readInt1_yes name null bt s (by omega) w h
    · rw [show Int.toNat 2 = 2 from rfl]
      by_cases hl : s.length < 2
      · rw [if_pos hl]; exact readInt_no name null 2 (by omega) bt s hl w h
      · rw [if_neg hl]; exact readInt2_yes name null bt s (by omega) w h
    · rw [show Int.toNat 4 = 4 from rfl]
      by_cases hl : s.length < 4
      · rw [if_pos hl]; exact readInt_no name null 4 (by omega) bt s hl w h
      · rw [if_neg hl]; exact readInt4_yes name null bt s (by omega) w h
    · rw [show Int.toNat 8 = 8 from rfl]
      by_cases hl : s.length < 8
      · rw [if_pos hl]; exact readInt_no name null 8 (by omega) bt s hl w h
      · rw [if_neg hl]; exact readInt8_yes name null bt s (by omega) w h
  · rw [if_neg (by decide), if_pos rfl]
    have hz := size_num (.inr rfl) hzz
    obtain ⟨k, rfl⟩ : ∃ k : Nat, z = k := ⟨z.toNat, by omega⟩
    rw [Int.toNat_natCast]
    by_cases hl : s.length < k
    · rw [if_pos hl]; exact readUint_no name null k (by omega) bt s hl w h
    · rw [if_neg hl]; exact readUint_yes name null k (by omega) (by omega) bt s (by omega) w h
  · rw [if_neg (by decide), if_neg (by decide), if_pos rfl]
    cases s with
    | nil => exact readBool_none name z null bt w h
    | cons d s =>
      dsimp only
      by_cases hd : 1 < d.toNat
      · rw [if_pos hd]; exact readBool_no name z null bt d s hd w h
      · rw [if_neg hd]; exact readBool_yes name z null bt d s (by omega) w h
  · rw [if_neg (by decide), if_neg (by decide), if_neg (by decide)]
    cases hx : rdText s with
    | none => exact readBytes_none name z null bt s hs hx w h
    | some p =>
      obtain ⟨x, m⟩ := p
      dsimp only
      by_cases hz : z < x.length
      · rw [if_pos hz]; exact readBytes_no name z null bt s hs x m hx hz w h
      · rw [if_neg hz]; exact readBytes_yes name z null bt s hs x m hx (by omega) w h
theorem readF_enters {t : Int} (h1 : 1 ≤ t) (h4 : t ≤ 4) : ∀ args w, (callFunc (readF t) args).run Tryz.prog w = .ok (.enter (readF t) args) w := by
  have hc : t = 1 ∨ t = 2 ∨ t = 3 ∨ t = 4 := by omega
  rcases hc with rfl | rfl | rfl | rfl
  · exact enters_of Tryz.func111 (by kernel_rfl) rfl
  · exact enters_of Tryz.func116 (by kernel_rfl) rfl
  · exact enters_of Tryz.func118 (by kernel_rfl) rfl
  · exact enters_of Tryz.func121 (by kernel_rfl) rfl
end Go.Proofs.YtkklmflclmgjeaaGreatDoor

/-
  The codec: reading a row.
-/
set_option linter.unusedVariables false
set_option linter.unusedSimpArgs false
set_option linter.unusedVariables false
set_option linter.unusedSimpArgs false
namespace Go.Proofs.YtkklmflclmgjeaaGreatDoor
open Go.RowKit Go.Shelf Go.Lib

theorem rdRow_app : ∀ (a b : List Col) (s : List UInt8), rdRow (a ++ b) s = match rdRow a s with
    | none => none
    | some (l, m) => match rdRow b (s.drop m) with
      | none => none
      | some (l2, m2) => some (l ++ l2, m + m2)
  | [], b, s => by
    rw [List.nil_append]
    show _ = match rdRow b (s.drop 0) with | none => none | some (l2, m2) => some ([] ++ l2, 0 + m2)
    rw [List.drop_zero]
    cases rdRow b s with
    | none => rfl
    | some p => obtain ⟨l, m⟩ := p; simp
  | c :: a, b, s => by
    rw [List.cons_append, rdRow_cons, rdRow_cons]
    cases rdVal c s with
    | none => rfl
    | some p =>
      obtain ⟨x, n⟩ := p
      dsimp only
      rw [rdRow_app a b]
      cases rdRow a (s.drop n) with
      | none => rfl
      | some p =>
        obtain ⟨l, m⟩ := p
        dsimp only
        rw [List.drop_drop]
        cases rdRow b (s.drop (n + m)) with
        | none => rfl
        | some p => obtain ⟨l2, m2⟩ := p; simp [Nat.add_assoc]
theorem rdRow_one (c : Col) (s : List UInt8) : rdRow [c] s = match rdVal c s with
    | none => none
    | some (x, n) => some ([x], n) := by
  rw [rdRow_cons]
  cases rdVal c s with
  | none => rfl
  | some p => rfl
theorem ownsRow_grown {w w' : World} {base bt : Nat} {e : TypeId} {size : Nat} {v : Value} {n : Nat} {xs : List Value} (h : w.ownsRow base e size v n xs) (hg : w.grownBy w' (some bt)) (hb : bt < base) : w'.ownsRow base e size v n xs := by
  refine ⟨h.1, ?_⟩
  rcases h.2 with h2 | ⟨g, cap, cur, hv, hgb, hh, r⟩
  · exact .inl h2
  · exact .inr ⟨g, cap, cur, hv, hgb, (hg.block g (Array.getElem?_eq_some_iff.1 hh).1 (fun e => by have := Option.some.inj e; omega)).trans hh, r⟩
/-- A row of the walk's own grows. -/
theorem grown_own {w W W' : World} {bt : Nat} {row : Option Nat} (h : w.grownBy W (some bt)) (h' : W.grownBy W' row) (hr : ∀ j, row = some j → w.heap.size ≤ j) : w.grownBy W' (some bt) :=
  ⟨h'.os.trans h.os, h'.tape.trans h.tape, h'.output.trans h.output, Nat.le_trans h.size h'.size, fun i hi hn => (h'.block i (Nat.lt_of_lt_of_le hi h.size) (fun e => by have := hr i e.symm; omega)).trans (h.block i hi hn)⟩
theorem TapeAt.own {W W' : World} {bt : Nat} {s : List UInt8} {row : Option Nat} (h : TapeAt W bt s) (hg : W.grownBy W' row) (hr : ∀ j, row = some j → bt < j) : TapeAt W' bt s := by
  have hlt := h.lt
  obtain ⟨A, c, h1, h2, h3, h4, h5⟩ := h
  have hb := fun i (hi : i ≤ bt) => hg.block i (by omega) (fun e => by have := hr i e.symm; omega)
  exact ⟨A, c, grown_c hg h1 (fun e => by have := hr bt e.symm; omega), grown_f hg h1 h2 (fun e => by have := hr bt e.symm; omega), h3, h4, h5.keep fun p hp => World.cell?_of_block (hb _ (by omega))⟩
/-- What reading a row hands back. -/
def GivesRd (o : Option (List Val × Nat)) (s : List UInt8) (bt : Nat) (w : World) (e : Ending) (w' : World) : Prop := match o with
  | some (l, m) => ∃ v, e = .returned v ∧ w'.ownsRow w.heap.size 48 4 v l.length (vrows l) ∧ TapeAt w' bt (s.drop m) ∧ w.grownBy w' (some bt)
  | none => GaveUp bt w e w'
set_option maxRecDepth 100000 in
set_option maxHeartbeats 8000000 in
theorem cdrow_any (vc vk vu : Value) (cols : List Col) (hr : ∀ c ∈ cols, rightB c = true) (hm : cols.length ≤ 1000) (bt : Nat) (s : List UInt8) (hs : s.length ≤ 1000000) (w0 w : World) (hc : ColsAt w0 vc cols) (hb0 : Bel w0 w) (hbt : w0.heap.size ≤ bt) (h : TapeAt w bt s) :
    Calls Tryz.prog 124 #[.pointer (some ⟨bt, 0, none⟩), .agg #[vc, vk, vu]] w (GivesRd (rdRow cols s) s bt w) := by
  obtain ⟨R, hR⟩ : ∃ R, R = rdRow cols s := ⟨_, rfl⟩
  rw [← hR]
  have HR := Lib.hid hR
  clear hR
  have hbl := h.lt
  obtain ⟨Ac, cc, rfl, hcc, hmc, hrc⟩ := hc
  have hcI : (cols.length : Int) ≤ 1000 := by omega
  have HRC := Lib.hid hrc
  have HRT := Lib.hid hr
  obtain ⟨i0, hi0, hz0, hz1, hz2⟩ := info_parts infoV
  have hp2 : (0 : Nat) < 4 := by omega
  have HB0 := Lib.hid hb0
  have HT0 := Lib.hid h
  clear hrc hr hcc hmc hb0 h
  go_enter Tryz.func124, Tryz.ntmps124
  go_wp2
  go_loopw [4, 12] (fun v i wr => ∃ (k m : Nat) (L : List Val), k ≤ cols.length ∧ i = .int .i64 k ∧ (∃ A c, v = .slice A k c) ∧ Hid (rdRow (cols.take k) s = some (L, m) ∧ L.length = k) ∧ Hid (TapeAt wr bt (s.drop m) ∧ w.grownBy wr (some bt) ∧ wr.ownsRow w.heap.size 48 4 v k (vrows L))) (fun v i _ => cols.length - (intOf i).toNat)
  case atStart => exact ⟨0, 0, [], Nat.zero_le _, rfl, ⟨none, 0, rfl⟩, ⟨rfl, rfl⟩, HT0.out.bel ((Bel.refl w).alloc _), ((Bel.refl w).alloc _).grown _, World.ownsRow_nil _ _ _ _⟩
  case round =>
    obtain ⟨k, m, L, hk, rfl, ⟨A, c, rfl⟩, HL, HO⟩ := hrel
    by_cases hlt : k < cols.length
    · obtain ⟨co, hco⟩ : ∃ co, cols[k]? = some co := ⟨_, List.getElem?_eq_getElem hlt⟩
      obtain ⟨bc, oc, rfl, hci⟩ := HRC.out (by omega)
      obtain ⟨q0, q1, q2, q3⟩ := hci k co hco
      have hBw : Bel w0 wr := Below.grown HB0.out HO.out.2.1 HB0.out.size (fun j e => by cases e; exact hbt)
      have c0 := hBw.c q0
      have c1 := hBw.c q1
      have c2 := hBw.c q2
      have c3 := hBw.c q3
      have hkI : (k : Int) < cols.length := by omega
      have htk : cols.take (k + 1) = cols.take k ++ [co] := by rw [List.take_add_one, hco]; rfl
      have hrco := HRT.out co (List.mem_of_getElem? hco)
      have HTK : Hid (rdRow (cols.take (k + 1)) s = match rdVal co (s.drop m) with
          | none => none
          | some (x, n) => some (L ++ [x], m + n)) := by
        show _ = _
        rw [htk, rdRow_app, HL.out.1]
        dsimp only
        rw [rdRow_one]
        cases rdVal co (s.drop m) <;> rfl
      have HBAD : Hid (rdVal co (s.drop m) = none → R = none) := fun e => by
        rw [HR.out]
        have h1 : rdRow (cols.take (k + 1) ++ cols.drop (k + 1)) s = none := by rw [rdRow_app, HTK.out, e]
        rwa [List.take_append_drop] at h1
      have hsz := HO.out.2.1.size
      have hdl : (s.drop m).length ≤ 1000000 := by rw [List.length_drop]; omega
      have HDD : Hid (∀ n, (s.drop m).drop n = s.drop (m + n)) := fun n => List.drop_drop
      have HTT := Lib.hid HO.out.1
      clear hco hci htk q0 q1 q2 q3 hBw
      generalize s.drop m = q at *
      obtain ⟨cn, ct, cz, cnl⟩ := co
      dsimp only at *
      have hbA : Bel wr (wr.alloc (.cells #[.string cn, .int .i64 ct, .int .i64 cz, .bool cnl] 44)) := (Bel.refl wr).alloc _
      cases q with
      | nil =>
        obtain rfl : R = none := HBAD.out rfl
        have HT := Lib.hid (take_no bt [] 1 (by simp) (by omega) (wr.alloc (.cells #[.string cn, .int .i64 ct, .int .i64 cz, .bool cnl] 44)) (HTT.out.bel hbA))
        have HG := Lib.hid (grown_trans HO.out.2.1 (hbA.grown _))
        clear hbA
        go_wp2_with fail
        refine HT.out.mono ?_
        rintro e w2 ⟨rfl, rfl⟩
        exact ⟨rfl, rfl, HG.out⟩
      | cons d q =>
        have HT := Lib.hid (take_yes bt (d :: q) 1 (by simp) (wr.alloc (.cells #[.string cn, .int .i64 ct, .int .i64 cz, .bool cnl] 44)) (HTT.out.bel hbA))
        have HCL : Hid (∀ V, (wr.alloc (.cells #[.string cn, .int .i64 ct, .int .i64 cz, .bool cnl] 44)).grownBy V (some bt) → (V.cell? ⟨wr.heap.size, 0, none⟩ = some (.string cn) ∧ V.cell? ⟨wr.heap.size, 1, none⟩ = some (.int .i64 ct) ∧ V.cell? ⟨wr.heap.size, 2, none⟩ = some (.int .i64 cz) ∧ V.cell? ⟨wr.heap.size, 3, none⟩ = some (.bool cnl)) ∧ wr.heap.size + 1 ≤ V.heap.size ∧ wr.grownBy V (some bt)) := fun V hg => by
          have hne0 : some wr.heap.size ≠ some bt := fun e => by have := Option.some.inj e; omega
          have hsz := hg.size
          exact ⟨⟨grown_c hg (by go_simp) hne0, grown_c hg (by go_simp) hne0, grown_c hg (by go_simp) hne0, grown_c hg (by go_simp) hne0⟩, by simpa using hsz, grown_trans (hbA.grown _) hg⟩
        have hdI : (d.toNat : Int) ≤ 255 := by have := d.toNat_lt; omega
        clear hbA
        go_wp2_with fail
        refine HT.out.mono ?_
        rintro e w2 ⟨A2, rfl, hr2, ht2, hg2⟩
        obtain ⟨⟨r0, r1, r2, r3⟩, hs2, hgw⟩ := HCL.out w2 hg2
        obtain ⟨ad, rfl, -, hcc⟩ := hr2.2 (by omega)
        have hc0' : w2.cell? ad = some (bv d) := by have := hcc 0 (bv d) (by simp); simpa [Addr.add] using this
        have hc0 : w2.cell? ad = some (.int .u8 d.toNat) := hc0'
        obtain ⟨ab, ao, asp⟩ := ad
        obtain rfl : asp = none := World.cell?_spot hc0
        have HT2 := Lib.hid ht2
        have HG2 := Lib.hid hgw
        clear hr2 ht2 hg2 hgw hcc hc0'
        by_cases h1 : d.toNat = 1
        · rw [h1] at hc0
          have hrdv : rdVal ⟨cn, ct, cz, cnl⟩ (d :: q) = match rdBody ⟨cn, ct, cz, cnl⟩ q with
              | some (x, n) => some (x, 1 + n)
              | none => none := by rw [rdVal_cons, if_pos h1]; cases rdBody ⟨cn, ct, cz, cnl⟩ q <;> rfl
          have hql : q.length ≤ 1000000 := by rw [List.length_cons] at hdl; omega
          have HRD := Lib.hid (fun (V : World) (ht : TapeAt V bt q) => read_any ⟨cn, ct, cz, cnl⟩ hrco bt q hql V ht)
          obtain ⟨ht1, ht4, -, -⟩ := right_parts hrco
          unfold Col.v at HRD
          dsimp only at *
          have HBL := Lib.hid hbl
          have eg := readF_enters ht1 ht4
          have hfd := ckField1
          have HLK := Lib.hid (fun (b : Nat) (V : World) (hb : V.heap[b]? = some (.map ckMap 4)) => ckLook ht1 ht4 hb)
          have HRDV := Lib.hid hrdv
          clear h1 hdI hdl hrdv
          go_wp2_with (go_at_call 87; refine (must_yes _).mono ?_; rintro e w' ⟨rfl, rfl⟩)
          refine wp_name ?_
          intro W3 hW3
          have hal3 : Bel w2 W3 := by rw [hW3]; exact (Bel.refl w2).alloc _
          have HT3 : Hid (TapeAt W3 bt q) := HT2.out.bel hal3
          have HOWW := Lib.hid (ownsRow_bel (ownsRow_grown HO.out.2.2 HG2.out hbl) hal3)
          have HGW := Lib.hid (grown_trans (grown_trans HO.out.2.1 HG2.out) (hal3.grown (some bt)))
          have HGR3 := Lib.hid (grown_trans HG2.out (hal3.grown (some bt)))
          have hs3 : W3.heap.size = w2.heap.size + 1 := by rw [hW3]; simp
          have z0 : W3.cell? ⟨w2.heap.size, 0, none⟩ = some (.int .i64 0) := by rw [hW3]; go_simp
          have z1 : W3.cell? ⟨w2.heap.size, 1, none⟩ = some (.int .i64 0) := by rw [hW3]; go_simp
          have z2 : W3.cell? ⟨w2.heap.size, 2, none⟩ = some (.int .u64 0) := by rw [hW3]; go_simp
          have z3 : W3.cell? ⟨w2.heap.size, 3, none⟩ = some (.string ⟨#[]⟩) := by rw [hW3]; go_simp
          have f0 : W3.frozen? ⟨w2.heap.size, 0, none⟩ = false := by rw [hW3]; go_simp
          have f1 : W3.frozen? ⟨w2.heap.size, 1, none⟩ = false := by rw [hW3]; go_simp
          have f2 : W3.frozen? ⟨w2.heap.size, 2, none⟩ = false := by rw [hW3]; go_simp
          have f3 : W3.frozen? ⟨w2.heap.size, 3, none⟩ = false := by rw [hW3]; go_simp
          have hne6 : some wr.heap.size ≠ some bt := fun e => by have := Option.some.inj e; have := hsz; have := hbl; omega
          have hne8 : some w2.heap.size ≠ some bt := fun e => by have := Option.some.inj e; have := hsz; have := hbl; omega
          have g0 := hal3.c r0
          have g1 := hal3.c r1
          have g2 := hal3.c r2
          have g3 := hal3.c r3
          have HS3 : Hid (∀ V, W3.grownBy V (some bt) → (fun V : World => (V.cell? ⟨wr.heap.size, 0, none⟩ = some (.string cn) ∧ V.cell? ⟨wr.heap.size, 1, none⟩ = some (.int .i64 ct) ∧ V.cell? ⟨wr.heap.size, 2, none⟩ = some (.int .i64 cz) ∧ V.cell? ⟨wr.heap.size, 3, none⟩ = some (.bool cnl)) ∧ w.grownBy V (some bt)) V) := fun V hg => ⟨⟨grown_c hg g0 hne6, grown_c hg g1 hne6, grown_c hg g2 hne6, grown_c hg g3 hne6⟩, grown_trans HGW.out hg⟩
          have HZ3 : Hid (∀ V, W3.grownBy V (some bt) → (V.cell? ⟨w2.heap.size, 0, none⟩ = some (.int .i64 0) ∧ V.cell? ⟨w2.heap.size, 1, none⟩ = some (.int .i64 0) ∧ V.cell? ⟨w2.heap.size, 2, none⟩ = some (.int .u64 0) ∧ V.cell? ⟨w2.heap.size, 3, none⟩ = some (.string ⟨#[]⟩)) ∧ (V.frozen? ⟨w2.heap.size, 0, none⟩ = false ∧ V.frozen? ⟨w2.heap.size, 1, none⟩ = false ∧ V.frozen? ⟨w2.heap.size, 2, none⟩ = false ∧ V.frozen? ⟨w2.heap.size, 3, none⟩ = false)) := fun V hg => ⟨⟨grown_c hg z0 hne8, grown_c hg z1 hne8, grown_c hg z2 hne8, grown_c hg z3 hne8⟩, ⟨grown_f hg z0 f0 hne8, grown_f hg z1 f1 hne8, grown_f hg z2 f2 hne8, grown_f hg z3 f3 hne8⟩⟩
          have HB3 := Lib.hid ((Bel.refl W3).drew)
          clear hW3 hal3 z0 z1 z2 z3 f0 f1 f2 f3 g0 g1 g2 g3 r0 r1 r2 r3
          cases hrb : rdBody ⟨cn, ct, cz, cnl⟩ q with
          | none =>
            obtain rfl : R = none := HBAD.out (by rw [HRDV.out, hrb])
            rw [hrb] at HRD
            clear hrb
            refine wp_region_held_drew (S := (fun V : World => (V.cell? ⟨wr.heap.size, 0, none⟩ = some (.string cn) ∧ V.cell? ⟨wr.heap.size, 1, none⟩ = some (.int .i64 ct) ∧ V.cell? ⟨wr.heap.size, 2, none⟩ = some (.int .i64 cz) ∧ V.cell? ⟨wr.heap.size, 3, none⟩ = some (.bool cnl)) ∧ w.grownBy V (some bt))) (by kernel_rfl) ?_ (fun hHr1_0 => ?_)
            · (try dsimp only); (first | assumption | exact HS3.out _ (HB3.out.grown _) | exact HS3.out _ ((HB3.out.then_ hb10).grown _))
            refine wpAnyH_take (i := 1) (oi := _) (v := ?vr1_1_1) rfl (by kernel_rfl) (by kernel_rfl) (by kernel_rfl) ?hqr1_1_1 (Or.inl ⟨by kernel_rfl, ?hyr1_1_1⟩) (by assumption) ?restr1_1_1
            case hqr1_1_1 => exact fun _ _ _ h => h
            case hyr1_1_1 => (intro w hSw; (try dsimp only at hSw); go_simp; try with_reducible rfl)
            try simp only [Act.put, List.getElem_toArray, List.getElem_cons_succ, List.getElem_cons_zero, List.setIfInBounds_toArray, List.set_cons_zero, List.set_cons_succ]
            refine wpAnyH_take (i := 2) (oi := _) (v := ?vr1_1_2) rfl (by kernel_rfl) (by kernel_rfl) (by kernel_rfl) ?hqr1_1_2 (Or.inl ⟨by kernel_rfl, ?hyr1_1_2⟩) (by assumption) ?restr1_1_2
            case hqr1_1_2 => exact fun _ _ _ h => h
            case hyr1_1_2 => (intro w hSw; (try dsimp only at hSw); go_simp; try with_reducible rfl)
            try simp only [Act.put, List.getElem_toArray, List.getElem_cons_succ, List.getElem_cons_zero, List.setIfInBounds_toArray, List.set_cons_zero, List.set_cons_succ]
            refine wpAnyH_take (i := 5) (oi := _) (v := ?vr1_1_5) rfl (by kernel_rfl) (by kernel_rfl) (by kernel_rfl) ?hqr1_1_5 (Or.inl ⟨by kernel_rfl, ?hyr1_1_5⟩) (by assumption) ?restr1_1_5
            case hqr1_1_5 => exact fun _ _ _ h => h
            case hyr1_1_5 => (intro w hSw; (try dsimp only at hSw); go_simp; try with_reducible rfl)
            try simp only [Act.put, List.getElem_toArray, List.getElem_cons_succ, List.getElem_cons_zero, List.setIfInBounds_toArray, List.set_cons_zero, List.set_cons_succ]
            refine wpAnyH_take (i := 6) (oi := _) (v := ?vr1_1_6) rfl (by kernel_rfl) (by kernel_rfl) (by kernel_rfl) ?hqr1_1_6 (Or.inl ⟨by kernel_rfl, ?hyr1_1_6⟩) (by assumption) ?restr1_1_6
            case hqr1_1_6 => exact fun _ _ _ h => h
            case hyr1_1_6 => (intro w hSw; (try dsimp only at hSw); go_simp; try with_reducible rfl)
            try simp only [Act.put, List.getElem_toArray, List.getElem_cons_succ, List.getElem_cons_zero, List.setIfInBounds_toArray, List.set_cons_zero, List.set_cons_succ]
            refine wpAnyH_ready (rs := [0]) (by kernel_rfl) (by simp) ?_
            refine AllReadyH.cons (o := _) rfl (fun K hK => ?_) AllReadyH.nil
            go_simp
            (go_at_call 70; refine (cdkinds_any _).mono ?_; rintro e w10 ⟨bm, rfl, hmap, hb10⟩; have hlk := HLK.out bm w10 hmap)
            try (go_wp2_with fail)
            refine hK.out _ _ ?_ (fun hHr1_1 => ?_)
            · (try dsimp only); (first | assumption | exact HS3.out _ (HB3.out.grown _) | exact HS3.out _ ((HB3.out.then_ hb10).grown _))
            clear hK K hHr1_0
            try simp only [Act.put, List.getElem_toArray, List.getElem_cons_succ, List.getElem_cons_zero, List.setIfInBounds_toArray, List.set_cons_zero, List.set_cons_succ]
            refine wpAnyH_ready (rs := [3]) (by kernel_rfl) (by simp) ?_
            refine AllReadyH.cons (o := _) rfl (fun K hK => ?_) AllReadyH.nil
            go_simp
            refine hK.out _ _ ?_ (fun hHr1_2 => ?_)
            · (try dsimp only); (first | assumption | exact HS3.out _ (HB3.out.grown _) | exact HS3.out _ ((HB3.out.then_ hb10).grown _))
            clear hK K hHr1_1
            try simp only [Act.put, List.getElem_toArray, List.getElem_cons_succ, List.getElem_cons_zero, List.setIfInBounds_toArray, List.set_cons_zero, List.set_cons_succ]
            refine wpAnyH_take (i := 4) (oi := _) (v := ?vr1_1_4) rfl (by kernel_rfl) (by kernel_rfl) (by kernel_rfl) ?hqr1_1_4 (Or.inl ⟨by kernel_rfl, ?hyr1_1_4⟩) (by assumption) ?restr1_1_4
            case hqr1_1_4 => exact fun _ _ _ h => h
            case hyr1_1_4 => (intro w hSw; (try dsimp only at hSw); go_simp; try with_reducible rfl)
            try simp only [Act.put, List.getElem_toArray, List.getElem_cons_succ, List.getElem_cons_zero, List.setIfInBounds_toArray, List.set_cons_zero, List.set_cons_succ]
            refine wpAnyH_ready (rs := [7]) (by kernel_rfl) (by simp) ?_
            refine AllReadyH.cons (o := _) rfl (fun K hK => ?_) AllReadyH.nil
            go_simp
            (go_at_fn (readF ct); refine (HRD.out _ (HT3.out.bel (HB3.out.then_ hb10))).mono ?_; rintro e w11 ⟨rfl, hg11⟩; have HG := Lib.hid (grown_trans HGW.out (grown_trans ((HB3.out.then_ hb10).grown _) hg11)); exact ⟨rfl, rfl, HG.out⟩)
          | some p =>
            obtain ⟨x, n⟩ := p
            have HNX : Hid (rdRow (cols.take (k + 1)) s = some (L ++ [x], m + (1 + n)) ∧ (L ++ [x]).length = k + 1) := by
              refine ⟨?_, by rw [List.length_append, HL.out.2]; rfl⟩
              rw [HTK.out, HRDV.out, hrb]
            have HDQ : Hid (q.drop n = s.drop (m + (1 + n))) := by
              have := HDD.out (1 + n)
              rw [Nat.add_comm 1 n, List.drop_succ_cons] at this
              rw [Nat.add_comm 1 n]
              exact this
            rw [hrb] at HRD
            clear hrb
            have HST : Hid (∀ V v0 v1 v2 v3, (fun V : World => (V.cell? ⟨wr.heap.size, 0, none⟩ = some (.string cn) ∧ V.cell? ⟨wr.heap.size, 1, none⟩ = some (.int .i64 ct) ∧ V.cell? ⟨wr.heap.size, 2, none⟩ = some (.int .i64 cz) ∧ V.cell? ⟨wr.heap.size, 3, none⟩ = some (.bool cnl)) ∧ w.grownBy V (some bt)) V → (fun V : World => (V.cell? ⟨wr.heap.size, 0, none⟩ = some (.string cn) ∧ V.cell? ⟨wr.heap.size, 1, none⟩ = some (.int .i64 ct) ∧ V.cell? ⟨wr.heap.size, 2, none⟩ = some (.int .i64 cz) ∧ V.cell? ⟨wr.heap.size, 3, none⟩ = some (.bool cnl)) ∧ w.grownBy V (some bt)) ((((V.setCell ⟨w2.heap.size, 0, none⟩ v0).setCell ⟨w2.heap.size, 1, none⟩ v1).setCell ⟨w2.heap.size, 2, none⟩ v2).setCell ⟨w2.heap.size, 3, none⟩ v3)) := fun V v0 v1 v2 v3 h => by
              have hne : wr.heap.size ≠ w2.heap.size := by omega
              have hge : w.heap.size ≤ w2.heap.size := by omega
              exact ⟨⟨by go_simp, by go_simp, by go_simp, by go_simp⟩, grown_set (grown_set (grown_set (grown_set h.2 hge) hge) hge) hge⟩
            refine wp_region_held_drew (S := (fun V : World => (V.cell? ⟨wr.heap.size, 0, none⟩ = some (.string cn) ∧ V.cell? ⟨wr.heap.size, 1, none⟩ = some (.int .i64 ct) ∧ V.cell? ⟨wr.heap.size, 2, none⟩ = some (.int .i64 cz) ∧ V.cell? ⟨wr.heap.size, 3, none⟩ = some (.bool cnl)) ∧ w.grownBy V (some bt))) (by kernel_rfl) ?_ (fun hHr2_0 => ?_)
            · (try dsimp only); (first | assumption | exact HS3.out _ (HB3.out.grown _) | exact HS3.out _ ((HB3.out.then_ hb10).grown _) | exact HS11.out | exact HST.out _ _ _ _ _ HS11.out)
            refine wpAnyH_take (i := 1) (oi := _) (v := ?vr2_1_1) rfl (by kernel_rfl) (by kernel_rfl) (by kernel_rfl) ?hqr2_1_1 (Or.inl ⟨by kernel_rfl, ?hyr2_1_1⟩) (by assumption) ?restr2_1_1
            case hqr2_1_1 => exact fun _ _ _ h => h
            case hyr2_1_1 => (intro w hSw; (try dsimp only at hSw); go_simp; try with_reducible rfl)
            try simp only [Act.put, List.getElem_toArray, List.getElem_cons_succ, List.getElem_cons_zero, List.setIfInBounds_toArray, List.set_cons_zero, List.set_cons_succ]
            refine wpAnyH_take (i := 2) (oi := _) (v := ?vr2_1_2) rfl (by kernel_rfl) (by kernel_rfl) (by kernel_rfl) ?hqr2_1_2 (Or.inl ⟨by kernel_rfl, ?hyr2_1_2⟩) (by assumption) ?restr2_1_2
            case hqr2_1_2 => exact fun _ _ _ h => h
            case hyr2_1_2 => (intro w hSw; (try dsimp only at hSw); go_simp; try with_reducible rfl)
            try simp only [Act.put, List.getElem_toArray, List.getElem_cons_succ, List.getElem_cons_zero, List.setIfInBounds_toArray, List.set_cons_zero, List.set_cons_succ]
            refine wpAnyH_take (i := 5) (oi := _) (v := ?vr2_1_5) rfl (by kernel_rfl) (by kernel_rfl) (by kernel_rfl) ?hqr2_1_5 (Or.inl ⟨by kernel_rfl, ?hyr2_1_5⟩) (by assumption) ?restr2_1_5
            case hqr2_1_5 => exact fun _ _ _ h => h
            case hyr2_1_5 => (intro w hSw; (try dsimp only at hSw); go_simp; try with_reducible rfl)
            try simp only [Act.put, List.getElem_toArray, List.getElem_cons_succ, List.getElem_cons_zero, List.setIfInBounds_toArray, List.set_cons_zero, List.set_cons_succ]
            refine wpAnyH_take (i := 6) (oi := _) (v := ?vr2_1_6) rfl (by kernel_rfl) (by kernel_rfl) (by kernel_rfl) ?hqr2_1_6 (Or.inl ⟨by kernel_rfl, ?hyr2_1_6⟩) (by assumption) ?restr2_1_6
            case hqr2_1_6 => exact fun _ _ _ h => h
            case hyr2_1_6 => (intro w hSw; (try dsimp only at hSw); go_simp; try with_reducible rfl)
            try simp only [Act.put, List.getElem_toArray, List.getElem_cons_succ, List.getElem_cons_zero, List.setIfInBounds_toArray, List.set_cons_zero, List.set_cons_succ]
            refine wpAnyH_ready (rs := [0]) (by kernel_rfl) (by simp) ?_
            refine AllReadyH.cons (o := _) rfl (fun K hK => ?_) AllReadyH.nil
            go_simp
            (go_at_call 70; refine (cdkinds_any _).mono ?_; rintro e w10 ⟨bm, rfl, hmap, hb10⟩; have hlk := HLK.out bm w10 hmap)
            try (go_wp2_with fail)
            refine hK.out _ _ ?_ (fun hHr2_1 => ?_)
            · (try dsimp only); (first | assumption | exact HS3.out _ (HB3.out.grown _) | exact HS3.out _ ((HB3.out.then_ hb10).grown _) | exact HS11.out | exact HST.out _ _ _ _ _ HS11.out)
            clear hK K hHr2_0
            try simp only [Act.put, List.getElem_toArray, List.getElem_cons_succ, List.getElem_cons_zero, List.setIfInBounds_toArray, List.set_cons_zero, List.set_cons_succ]
            refine wpAnyH_ready (rs := [3]) (by kernel_rfl) (by simp) ?_
            refine AllReadyH.cons (o := _) rfl (fun K hK => ?_) AllReadyH.nil
            go_simp
            refine hK.out _ _ ?_ (fun hHr2_2 => ?_)
            · (try dsimp only); (first | assumption | exact HS3.out _ (HB3.out.grown _) | exact HS3.out _ ((HB3.out.then_ hb10).grown _) | exact HS11.out | exact HST.out _ _ _ _ _ HS11.out)
            clear hK K hHr2_1
            try simp only [Act.put, List.getElem_toArray, List.getElem_cons_succ, List.getElem_cons_zero, List.setIfInBounds_toArray, List.set_cons_zero, List.set_cons_succ]
            refine wpAnyH_take (i := 4) (oi := _) (v := ?vr2_1_4) rfl (by kernel_rfl) (by kernel_rfl) (by kernel_rfl) ?hqr2_1_4 (Or.inl ⟨by kernel_rfl, ?hyr2_1_4⟩) (by assumption) ?restr2_1_4
            case hqr2_1_4 => exact fun _ _ _ h => h
            case hyr2_1_4 => (intro w hSw; (try dsimp only at hSw); go_simp; try with_reducible rfl)
            try simp only [Act.put, List.getElem_toArray, List.getElem_cons_succ, List.getElem_cons_zero, List.setIfInBounds_toArray, List.set_cons_zero, List.set_cons_succ]
            refine wpAnyH_ready (rs := [7]) (by kernel_rfl) (by simp) ?_
            refine AllReadyH.cons (o := _) rfl (fun K hK => ?_) AllReadyH.nil
            go_simp
            (go_at_fn (readF ct); refine (HRD.out _ (HT3.out.bel (HB3.out.then_ hb10))).mono ?_; rintro e w11 ⟨rfl, ht11, hg11⟩; have hg12 := grown_trans ((HB3.out.then_ hb10).grown _) hg11; obtain ⟨⟨y0, y1, y2, y3⟩, e0, e1, e2, e3⟩ := HZ3.out w11 hg12; have HS11 := Lib.hid (HS3.out w11 hg12); have HT11 := Lib.hid ht11; have HG11 := Lib.hid hg12; clear ht11 hg11 hg12)
            try (go_wp2_with fail)
            refine hK.out _ _ ?_ (fun hHr2_3 => ?_)
            · (try dsimp only); (first | assumption | exact HS3.out _ (HB3.out.grown _) | exact HS3.out _ ((HB3.out.then_ hb10).grown _) | exact HS11.out | exact HST.out _ _ _ _ _ HS11.out)
            clear hK K hHr2_2
            try simp only [Act.put, List.getElem_toArray, List.getElem_cons_succ, List.getElem_cons_zero, List.setIfInBounds_toArray, List.set_cons_zero, List.set_cons_succ]
            refine wpAnyH_ready (rs := [8]) (by kernel_rfl) (by simp) ?_
            refine AllReadyH.cons (o := _) rfl (fun K hK => ?_) AllReadyH.nil
            go_simp
            refine hK.out _ _ ?_ (fun hHr2_4 => ?_)
            · (try dsimp only); (first | assumption | exact HS3.out _ (HB3.out.grown _) | exact HS3.out _ ((HB3.out.then_ hb10).grown _) | exact HS11.out | exact HST.out _ _ _ _ _ HS11.out)
            clear hK K hHr2_3
            try simp only [Act.put, List.getElem_toArray, List.getElem_cons_succ, List.getElem_cons_zero, List.setIfInBounds_toArray, List.set_cons_zero, List.set_cons_succ]
            refine wpAnyH_done (by kernel_rfl) ?_ _
            have hne : wr.heap.size ≤ w2.heap.size := by omega
            obtain ⟨W4, hW4⟩ : ∃ V, V = ((((w11.setCell ⟨w2.heap.size, 0, none⟩ (.int .i64 x.k)).setCell ⟨w2.heap.size, 1, none⟩ (.int .i64 x.n)).setCell ⟨w2.heap.size, 2, none⟩ (.int .u64 x.u)).setCell ⟨w2.heap.size, 3, none⟩ (.string x.b)) := ⟨_, rfl⟩
            rw [← hW4]
            have hgr4 : wr.grownBy W4 (some bt) := by
              rw [hW4]
              exact grown_set (grown_set (grown_set (grown_set (grown_trans HGR3.out HG11.out) hne) hne) hne) hne
            have hbl4 : bt < w2.heap.size := by omega
            have HTW : Hid (TapeAt W4 bt (s.drop (m + (1 + n)))) := by
              rw [← HDQ.out, hW4]
              exact (((HT11.out.setCell hbl4 _).setCell hbl4 _).setCell hbl4 _).setCell hbl4 _
            have HOWW := Lib.hid (ownsRow_grown HO.out.2.2 hgr4 hbl)
            have HGW := Lib.hid (grown_trans HO.out.2.1 hgr4)
            have z0 : W4.cell? ⟨w2.heap.size, 0, none⟩ = some (.int .i64 x.k) := by rw [hW4]; go_simp
            have z1 : W4.cell? ⟨w2.heap.size, 1, none⟩ = some (.int .i64 x.n) := by rw [hW4]; go_simp
            have z2 : W4.cell? ⟨w2.heap.size, 2, none⟩ = some (.int .u64 x.u) := by rw [hW4]; go_simp
            have z3 : W4.cell? ⟨w2.heap.size, 3, none⟩ = some (.string x.b) := by rw [hW4]; go_simp
            clear hgr4 hbl4 hW4 y0 y1 y2 y3 e0 e1 e2 e3
            have hal : Bel W4 (W4.alloc (.cells #[.int .i64 x.k, .int .i64 x.n, .int .u64 x.u, .string x.b] 48)) := (Bel.refl _).alloc _
            have HOW := Lib.hid (ownsRow_bel HOWW.out hal)
            have HX1 : Hid (Reads (W4.alloc (.cells #[.int .i64 x.k, .int .i64 x.n, .int .u64 x.u, .string x.b] 48)) (W4.heap.size + 1) 4 (some ⟨W4.heap.size, 0, none⟩) 1 [.int .i64 x.k, .int .i64 x.n, .int .u64 x.u, .string x.b]) := by
              have := reads4 W4 48 (.int .i64 x.k) (.int .i64 x.n) (.int .u64 x.u) (.string x.b)
              show Reads _ _ _ _ _ _
              rw [show W4.heap.size = W4.heap.size by simp] at this
              exact this
            have HGA := Lib.hid (grown_trans HGW.out (hal.grown _))
            have HTA := Lib.hid (HTW.out.bel hal)
            have HS1 : Hid (w.heap.size ≤ (W4.alloc (.cells #[.int .i64 x.k, .int .i64 x.n, .int .u64 x.u, .string x.b] 48)).heap.size) := HGA.out.size
            have hon : ∀ u ∈ ([.int .i64 x.k, .int .i64 x.n, .int .u64 x.u, .string x.b] : List Value), u.oneCell' = true := fun u hu => by
              simp at hu
              rcases hu with rfl | rfl | rfl | rfl <;> rfl
            have HVA : Hid (vrows (L ++ [x]) = vrows L ++ [.int .i64 x.k, .int .i64 x.n, .int .u64 x.u, .string x.b]) := vrows_append _ _
            have h63 : k + 1 ≤ maxLen := by unfold maxLen; omega
            have hby : (k + 1) * 40 ≤ 140737488355328 := by omega
            clear hal
            go_wp2_with (at_builtin; refine wpList_append_any _ rfl (.tmp 41) (.tmp 43) _ rfl w.heap.size 48 i0 _ 4 40 Tryz.underlying27 hi0 hz0 hz1 hz2 rfl hp2 (.slice A k c) k (vrows L) (by rfl) HOW.out _ (some ⟨W4.heap.size, 0, none⟩) 1 1 [.int .i64 x.k, .int .i64 x.n, .int .u64 x.u, .string x.b] (by rfl) HX1.out hon h63 hby HS1.out ?_; intro v9 w9 hown9 hg9 hat9; obtain ⟨A9, c9, rfl⟩ := row_any hown9; have hlt9 := fun j e => (HOW.out.lt j e).1; have hg10 := grown_own HGA.out hg9 hlt9; have ht10 := HTA.out.own hg9 (fun j e => Nat.lt_of_lt_of_le HBL.out (hlt9 j e)); have HN : Hid (TapeAt w9 bt (s.drop (m + (1 + n))) ∧ w.grownBy w9 (some bt) ∧ w9.ownsRow w.heap.size 48 4 (.slice A9 (k + 1) c9) (k + 1) (vrows (L ++ [x]))) := ⟨ht10, hg10, by rw [HVA.out]; exact hown9⟩; clear hown9 hg9 hat9 hlt9 hg10 ht10)
            go_roundw
            case rel => exact ⟨k + 1, m + (1 + n), L ++ [x], by omega, by go_num, ⟨A9, c9, rfl⟩, HNX.out, HN.out⟩
            case measure => simp [intOf]; omega
        · by_cases h0 : d.toNat = 0 ∧ cnl = true
          · obtain ⟨hz, hnl⟩ := h0
            subst hnl
            rw [hz] at hc0
            have HNX : Hid (rdRow (cols.take (k + 1)) s = some (L ++ [noVal], m + 1) ∧ (L ++ [noVal]).length = k + 1) := by
              refine ⟨?_, by rw [List.length_append, HL.out.2]; rfl⟩
              rw [HTK.out, rdVal_cons, if_neg h1, if_pos ⟨hz, rfl⟩]
            have hal2 : Bel w2 (w2.alloc (.cells #[.int .i64 0, .int .i64 0, .int .u64 0, .string ⟨#[]⟩] 48)) := (Bel.refl w2).alloc _
            have HOWW := Lib.hid (ownsRow_bel (ownsRow_grown HO.out.2.2 HG2.out hbl) hal2)
            have HGW := Lib.hid (grown_trans (grown_trans HO.out.2.1 HG2.out) (hal2.grown (some bt)))
            have HTW : Hid (TapeAt (w2.alloc (.cells #[.int .i64 0, .int .i64 0, .int .u64 0, .string ⟨#[]⟩] 48)) bt (s.drop (m + 1))) := by
              have := HT2.out.bel hal2
              rw [HDD.out] at this
              exact this
            have HBL := Lib.hid hbl
            clear h1 hdI hz hal2 hbl
            have hal : Bel (w2.alloc (.cells #[.int .i64 0, .int .i64 0, .int .u64 0, .string ⟨#[]⟩] 48)) ((w2.alloc (.cells #[.int .i64 0, .int .i64 0, .int .u64 0, .string ⟨#[]⟩] 48)).alloc (.cells #[.int .i64 0, .int .i64 0, .int .u64 0, .string ⟨#[]⟩] 48)) := (Bel.refl _).alloc _
            have HOW := Lib.hid (ownsRow_bel HOWW.out hal)
            have HX1 : Hid (Reads ((w2.alloc (.cells #[.int .i64 0, .int .i64 0, .int .u64 0, .string ⟨#[]⟩] 48)).alloc (.cells #[.int .i64 0, .int .i64 0, .int .u64 0, .string ⟨#[]⟩] 48)) ((w2.heap.size + 1) + 1) 4 (some ⟨(w2.heap.size + 1), 0, none⟩) 1 [.int .i64 0, .int .i64 0, .int .u64 0, .string ⟨#[]⟩]) := by
              have := reads4 (w2.alloc (.cells #[.int .i64 0, .int .i64 0, .int .u64 0, .string ⟨#[]⟩] 48)) 48 (.int .i64 0) (.int .i64 0) (.int .u64 0) (.string ⟨#[]⟩)
              show Reads _ _ _ _ _ _
              rw [show (w2.alloc (.cells #[.int .i64 0, .int .i64 0, .int .u64 0, .string ⟨#[]⟩] 48)).heap.size = (w2.heap.size + 1) by simp] at this
              exact this
            have HGA := Lib.hid (grown_trans HGW.out (hal.grown _))
            have HTA := Lib.hid (HTW.out.bel hal)
            have HS1 : Hid (w.heap.size ≤ ((w2.alloc (.cells #[.int .i64 0, .int .i64 0, .int .u64 0, .string ⟨#[]⟩] 48)).alloc (.cells #[.int .i64 0, .int .i64 0, .int .u64 0, .string ⟨#[]⟩] 48)).heap.size) := HGA.out.size
            have hon : ∀ u ∈ ([.int .i64 0, .int .i64 0, .int .u64 0, .string ⟨#[]⟩] : List Value), u.oneCell' = true := fun u hu => by
              simp at hu
              rcases hu with rfl | rfl | rfl | rfl <;> rfl
            have HVA : Hid (vrows (L ++ [noVal]) = vrows L ++ [.int .i64 0, .int .i64 0, .int .u64 0, .string ⟨#[]⟩]) := vrows_append _ _
            have h63 : k + 1 ≤ maxLen := by unfold maxLen; omega
            have hby : (k + 1) * 40 ≤ 140737488355328 := by omega
            clear hal
            go_wp2_with (first | (go_at_call 87; refine (must_yes _).mono ?_; rintro e w' ⟨rfl, rfl⟩) | (at_builtin; refine wpList_append_any _ rfl (.tmp 41) (.tmp 43) _ rfl w.heap.size 48 i0 _ 4 40 Tryz.underlying27 hi0 hz0 hz1 hz2 rfl hp2 (.slice A k c) k (vrows L) (by rfl) HOW.out _ (some ⟨(w2.heap.size + 1), 0, none⟩) 1 1 [.int .i64 0, .int .i64 0, .int .u64 0, .string ⟨#[]⟩] (by rfl) HX1.out hon h63 hby HS1.out ?_; intro v9 w9 hown9 hg9 hat9; obtain ⟨A9, c9, rfl⟩ := row_any hown9; have hlt9 := fun j e => (HOW.out.lt j e).1; have hg10 := grown_own HGA.out hg9 hlt9; have ht10 := HTA.out.own hg9 (fun j e => Nat.lt_of_lt_of_le HBL.out (hlt9 j e)); have HN : Hid (TapeAt w9 bt (s.drop (m + 1)) ∧ w.grownBy w9 (some bt) ∧ w9.ownsRow w.heap.size 48 4 (.slice A9 (k + 1) c9) (k + 1) (vrows (L ++ [noVal]))) := ⟨ht10, hg10, by rw [HVA.out]; exact hown9⟩; clear hown9 hg9 hat9 hlt9 hg10 ht10))
            go_roundw
            case rel => exact ⟨k + 1, m + 1, L ++ [noVal], by omega, by go_num, ⟨A9, c9, rfl⟩, HNX.out, HN.out⟩
            case measure => simp [intOf]; omega
          · obtain rfl : R = none := HBAD.out (by rw [rdVal_cons, if_neg h1, if_neg (fun h => h0 h)])
            have hd1 : ((d.toNat : Int) == 1) = false := by rw [beq_eq_false_iff_ne]; omega
            have HG := Lib.hid (grown_trans HO.out.2.1 HG2.out)
            by_cases hz : d.toNat = 0
            · have hnl : cnl = false := by cases cnl; rfl; exact absurd ⟨hz, rfl⟩ h0
              subst hnl
              rw [hz] at hc0
              clear h0 h1 hd1 hdI hz
              go_wp2_with (go_at_call 87; refine (must_no _).mono ?_; rintro e w' ⟨rfl, rfl⟩)
              exact ⟨rfl, rfl, HG.out⟩
            · have hd0 : ((d.toNat : Int) == 0) = false := by rw [beq_eq_false_iff_ne]; omega
              clear h0 h1 hz
              generalize d.toNat = D at *
              go_wp2_with (go_at_call 87; refine (must_no _).mono ?_; rintro e w' ⟨rfl, rfl⟩)
              exact ⟨rfl, rfl, HG.out⟩
    · obtain rfl : k = cols.length := by omega
      have ht : R = some (L, m) := by
        have := HL.out.1
        rw [List.take_length] at this
        rw [HR.out]; exact this
      subst ht
      have HV := Lib.hid (HL.out.2.symm ▸ HO.out.2.2 : wr.ownsRow w.heap.size 48 4 (.slice A cols.length c) L.length (vrows L))
      clear hlt hk
      go_wp2
      go_ret
      exact ⟨_, rfl, HV.out, HO.out.1, HO.out.2.1⟩
end Go.Proofs.YtkklmflclmgjeaaGreatDoor

/-
  The codec: what is caught, and read.
-/
set_option linter.unusedVariables false
set_option linter.unusedSimpArgs false
set_option linter.unusedVariables false
set_option linter.unusedSimpArgs false
namespace Go.Proofs.YtkklmflclmgjeaaGreatDoor
open Go.RowKit Go.Shelf Go.Lib

theorem cdreadC_any (g4 g5 : Nat) (v4 v5 : Value) (hne : g4 ≠ g5) (w : World) (h4 : w.cell? ⟨g4, 0, none⟩ = some v4) (h5 : w.cell? ⟨g5, 0, none⟩ = some v5) (f4 : w.frozen? ⟨g4, 0, none⟩ = false) (f5 : w.frozen? ⟨g5, 0, none⟩ = false) :
    Calls Tryz.prog 123 #[.pointer (some ⟨g4, 0, none⟩), .pointer (some ⟨g5, 0, none⟩)] w fun e w' => e = .returned (.tuple #[]) ∧ (w.setCell ⟨g4, 0, none⟩ (.slice none 0 0)).setCell ⟨g5, 0, none⟩ (.int .i64 0) = w' := by
  go_enter Tryz.func123, Tryz.ntmps123
  go_wp2
  go_end0
  exact ⟨rfl, rfl⟩
theorem assert_errno (n : Int) (w : World) : (Instr.typeAssert (.iface 32 (.int .i64 n)) 20 32 true).run Tryz.prog w = .ok (.tuple #[.int .i64 n, .bool true]) w := by kernel_rfl
theorem neq_errno (n : Int) (w : World) : (binOp BinOp.neq 20 (.iface 32 (.int .i64 n)) .nilIface).run Tryz.prog w = .ok (.bool true) w := by kernel_rfl
theorem neq_nil (w : World) : (binOp BinOp.neq 20 .nilIface .nilIface).run Tryz.prog w = .ok (.bool false) w := by kernel_rfl
theorem caught_idle (p c : Value) (w : World) : CallsD Tryz.prog 81 #[p, c] .returning w fun e u' w' => e = .returned (.tuple #[]) ∧ u' = .returning ∧ w' = w := by
  have hn := neq_nil
  refine callsD_of_wpS Tryz.func81 rfl fun c₀ cs hu => ?_
  apply wpS_seq
  apply wpS_region
  simp [wpOpsS, go_sem, recoverD, hu, Tryz.ntmps81, Exit.thenS]
  simp only [Array.replicate, List.replicate, List.setIfInBounds_toArray, List.set_cons_succ, List.set_cons_zero, List.append_toArray, List.cons_append, List.nil_append]
  refine wpS_of_wp ?_
  go_wp2
  cases c₀
  simp_all [bodyPostS, results, Tryz.results81]
theorem caught_gave (g4 g5 g6 : Nat) (v4 v5 v6 : Value) (h45 : g4 ≠ g5) (h46 : g4 ≠ g6) (h56 : g5 ≠ g6) (w : World) (h4 : w.cell? ⟨g4, 0, none⟩ = some v4) (h5 : w.cell? ⟨g5, 0, none⟩ = some v5) (h6 : w.cell? ⟨g6, 0, none⟩ = some v6)
    (f4 : w.frozen? ⟨g4, 0, none⟩ = false) (f5 : w.frozen? ⟨g5, 0, none⟩ = false) (f6 : w.frozen? ⟨g6, 0, none⟩ = false) :
    CallsD Tryz.prog 81 #[.pointer (some ⟨g6, 0, none⟩), .func (.func 123) #[] #[.pointer (some ⟨g4, 0, none⟩), .pointer (some ⟨g5, 0, none⟩)]] (.panicking gaveUp) w fun e u' w' =>
      e = .returned (.tuple #[]) ∧ u' = .panicking [{ v := .iface 32 (.int .i64 140), recovered := true }] ∧ w' = ((w.setCell ⟨g4, 0, none⟩ (.slice none 0 0)).setCell ⟨g5, 0, none⟩ (.int .i64 0)).setCell ⟨g6, 0, none⟩ (.int .i64 140) := by
  have hn := neq_errno
  have ha := assert_errno
  refine callsD_of_wpS Tryz.func81 rfl fun c₀ cs hu => ?_
  unfold gaveUp at hu
  apply wpS_seq
  apply wpS_region
  simp [wpOpsS, go_sem, recoverD, hu, Tryz.ntmps81, Exit.thenS]
  simp only [Array.replicate, List.replicate, List.setIfInBounds_toArray, List.set_cons_succ, List.set_cons_zero, List.append_toArray, List.cons_append, List.nil_append]
  refine wpS_of_wp ?_
  have HC := Lib.hid (fun V => cdreadC_any g4 g5 v4 v5 h45 V)
  go_wp2_with fail
  refine (HC.out _ h4 h5 f4 f5).mono ?_
  rintro e w' ⟨rfl, rfl⟩
  go_wp2
  clear HC hn ha
  simp_all [bodyPostS, results, Tryz.results81]
/-- What reading a row of bytes hands back. -/
def GivesDec (o : Option (List Val × Nat)) (w : World) (e : Ending) (w' : World) : Prop := match o with
  | some (l, m) => ∃ v, e = .returned (.tuple #[v, .int .i64 m, .int .i64 0]) ∧ ValsAt w' v l ∧ Bel w w'
  | none => e = .returned (.tuple #[.slice none 0 0, .int .i64 0, .int .i64 140]) ∧ Bel w w'
set_option maxRecDepth 100000 in
set_option maxHeartbeats 4000000 in
theorem cdread_any (vc vk vu vb : Value) (cols : List Col) (hr : ∀ c ∈ cols, rightB c = true) (hm : cols.length ≤ 1000) (s : List UInt8) (hs : s.length ≤ 1000000) (w : World) (hc : ColsAt w vc cols) (hb : BsAt w vb s) :
    Calls Tryz.prog 72 #[.agg #[vc, vk, vu], vb] w (GivesDec (rdRow cols s) w) := by
  have hmf : ∀ (fn : Fn) (first cap : Array Value) (w : World), (Instr.makeFunc fn first cap).run Tryz.prog w = .ok (.func fn first cap) w := fun _ _ _ _ => rfl
  obtain ⟨A, c, rfl, hn, hmx, hrd⟩ := hb
  have HROW := Lib.hid (fun V (hb0 : Bel w V) (ht : TapeAt V (w.heap.size + 1 + 1 + 1 + 1) s) => cdrow_any vc vk vu cols hr hm (w.heap.size + 1 + 1 + 1 + 1) s hs w V hc hb0 (by omega) ht)
  have HRD := Lib.hid hrd
  have HB := Lib.hid (And.intro hn hmx)
  have HBK := Lib.hid (fun l m (h : rdRow cols s = some (l, m)) => rdRow_back hr h)
  generalize rdRow cols s = R at *
  clear hc hr hrd hn hmx hm hs
  go_enter_defers Tryz.func72, Tryz.ntmps72
  go_wp2_with fail
  obtain ⟨W0, hW0⟩ : ∃ V, V = (((((w.alloc (.cells #[vc, vk, vu] 26)).alloc (.cells #[.slice none 0 0] 27)).alloc (.cells #[.int .i64 0] 3)).alloc (.cells #[.int .i64 0] 32)).alloc (.cells #[.slice A s.length c] 130)) := ⟨_, rfl⟩
  rw [← hW0]
  have hb0 : Bel w W0 := by rw [hW0]; exact (((((Bel.refl w).alloc _).alloc _).alloc _).alloc _).alloc _
  have hs0 : W0.heap.size = w.heap.size + 1 + 1 + 1 + 1 + 1 := by rw [hW0]; simp
  have ht0 : TapeAt W0 (w.heap.size + 1 + 1 + 1 + 1) s := ⟨A, c, by rw [hW0]; go_simp, by rw [hW0]; go_simp, HB.out.1, HB.out.2, (HRD.out.keep fun p hp => hb0.cell hp).more (by omega)⟩
  have HZ : Hid (∀ V, W0.grownBy V (some (w.heap.size + 1 + 1 + 1 + 1)) → (V.cell? ⟨w.heap.size + 1, 0, none⟩ = some (.slice none 0 0) ∧ V.cell? ⟨w.heap.size + 1 + 1, 0, none⟩ = some (.int .i64 0) ∧ V.cell? ⟨w.heap.size + 1 + 1 + 1, 0, none⟩ = some (.int .i64 0)) ∧ V.frozen? ⟨w.heap.size + 1, 0, none⟩ = false ∧ V.frozen? ⟨w.heap.size + 1 + 1, 0, none⟩ = false ∧ V.frozen? ⟨w.heap.size + 1 + 1 + 1, 0, none⟩ = false) := fun V hg => by
    have h4 : some (w.heap.size + 1) ≠ some (w.heap.size + 1 + 1 + 1 + 1) := fun e => by have := Option.some.inj e; omega
    have h5 : some (w.heap.size + 1 + 1) ≠ some (w.heap.size + 1 + 1 + 1 + 1) := fun e => by have := Option.some.inj e; omega
    have h6 : some (w.heap.size + 1 + 1 + 1) ≠ some (w.heap.size + 1 + 1 + 1 + 1) := fun e => by have := Option.some.inj e; omega
    have c4 : W0.cell? ⟨w.heap.size + 1, 0, none⟩ = some (.slice none 0 0) := by rw [hW0]; go_simp
    have c5 : W0.cell? ⟨w.heap.size + 1 + 1, 0, none⟩ = some (.int .i64 0) := by rw [hW0]; go_simp
    have c6 : W0.cell? ⟨w.heap.size + 1 + 1 + 1, 0, none⟩ = some (.int .i64 0) := by rw [hW0]; go_simp
    exact ⟨⟨grown_c hg c4 h4, grown_c hg c5 h5, grown_c hg c6 h6⟩, grown_f hg c4 (by rw [hW0]; go_simp) h4, grown_f hg c5 (by rw [hW0]; go_simp) h5, grown_f hg c6 (by rw [hW0]; go_simp) h6⟩
  have HR := Lib.hid (HROW.out W0 hb0 ht0)
  have HB0 := Lib.hid hb0
  have HS0 := Lib.hid hs0
  clear hW0 hb0 hs0 ht0
  cases R with
  | none =>
    refine HR.out.mono ?_
    rintro e w1 ⟨rfl, hg1⟩
    obtain ⟨⟨y4, y5, y6⟩, e4, e5, e6⟩ := HZ.out w1 hg1
    have hb1 : Bel w w1 := Below.grown HB0.out hg1 HB0.out.size (fun j e => by cases e; omega)
    have HB1 : Hid (Bel w (((w1.setCell ⟨w.heap.size + 1, 0, none⟩ (.slice none 0 0)).setCell ⟨w.heap.size + 1 + 1, 0, none⟩ (.int .i64 0)).setCell ⟨w.heap.size + 1 + 1 + 1, 0, none⟩ (.int .i64 140))) := ((hb1.setCell (by show w.heap.size ≤ w.heap.size + 1; omega) _).setCell (by show w.heap.size ≤ w.heap.size + 1 + 1; omega) _).setCell (by show w.heap.size ≤ w.heap.size + 1 + 1 + 1; omega) _
    have k4 := World.block_lt_of_cell? w1 ⟨w.heap.size + 1, 0, none⟩ y4
    clear hb1 hg1
    try go_wp2
    refine leaves_cons (f := 81) (args := #[.pointer (some ⟨w.heap.size + 1 + 1 + 1, 0, none⟩), .func (.func 123) #[] #[.pointer (some ⟨w.heap.size + 1, 0, none⟩), .pointer (some ⟨w.heap.size + 1 + 1, 0, none⟩)]]) (by simp) (by simp [go_sem]) ?_
    refine (caught_gave (w.heap.size + 1) (w.heap.size + 1 + 1) (w.heap.size + 1 + 1 + 1) _ _ _ (by omega) (by omega) (by omega) _ y4 y5 y6 e4 e5 e6).mono ?_
    rintro e u' w'' ⟨rfl, rfl, rfl⟩
    simp [Leaves, settle, results, Tryz.results72, go_sem, y4, y5, y6]
    exact ⟨rfl, HB1.out⟩
  | some p =>
    obtain ⟨l, m⟩ := p
    obtain ⟨hml, -, -, -, -, -⟩ := HBK.out l m rfl
    refine HR.out.mono ?_
    rintro e w1 ⟨v, rfl, hown, ht1, hg1⟩
    obtain ⟨⟨y4, y5, y6⟩, e4, e5, e6⟩ := HZ.out w1 hg1
    obtain ⟨Av, cv, rfl⟩ := row_any hown
    obtain ⟨At, ct, htc, htf, -, -, -⟩ := ht1
    have hdl : (s.drop m).length = s.length - m := List.length_drop
    rw [hdl] at htc
    have hlI : (m : Int) ≤ s.length := by omega
    go_wp2
    refine wp_region_noPanic ?_
    refine wp_region_held_drew (S := (fun V : World => V.cell? ⟨w.heap.size + 1, 0, none⟩ = some (.slice Av l.length cv) ∧ V.cell? ⟨w.heap.size + 1 + 1 + 1 + 1, 0, none⟩ = some (.slice At (s.length - m) ct))) (by kernel_rfl) ?_ (fun hHr1_0 => ?_)
    · (try dsimp only); (first | assumption | (refine ⟨?_, ?_⟩ <;> go_simp))
    refine wpAnyH_take (i := 0) (oi := _) (v := ?vr1_1_0) rfl (by kernel_rfl) (by kernel_rfl) (by kernel_rfl) ?hqr1_1_0 (Or.inl ⟨by kernel_rfl, ?hyr1_1_0⟩) (by assumption) ?restr1_1_0
    case hqr1_1_0 => exact fun _ _ _ h => h
    case hyr1_1_0 => (intro w hSw; (try dsimp only at hSw); go_simp; try with_reducible rfl)
    try simp only [Act.put, List.getElem_toArray, List.getElem_cons_succ, List.getElem_cons_zero, List.setIfInBounds_toArray, List.set_cons_zero, List.set_cons_succ]
    refine wpAnyH_take (i := 1) (oi := _) (v := ?vr1_1_1) rfl (by kernel_rfl) (by kernel_rfl) (by kernel_rfl) ?hqr1_1_1 (Or.inl ⟨by kernel_rfl, ?hyr1_1_1⟩) (by assumption) ?restr1_1_1
    case hqr1_1_1 => exact fun _ _ _ h => h
    case hyr1_1_1 => (intro w hSw; (try dsimp only at hSw); go_simp; try with_reducible rfl)
    try simp only [Act.put, List.getElem_toArray, List.getElem_cons_succ, List.getElem_cons_zero, List.setIfInBounds_toArray, List.set_cons_zero, List.set_cons_succ]
    refine wpAnyH_take (i := 2) (oi := _) (v := ?vr1_1_2) rfl (by kernel_rfl) (by kernel_rfl) (by kernel_rfl) ?hqr1_1_2 (Or.inl ⟨by kernel_rfl, ?hyr1_1_2⟩) (by assumption) ?restr1_1_2
    case hqr1_1_2 => exact fun _ _ _ h => h
    case hyr1_1_2 => (intro w hSw; (try dsimp only at hSw); go_simp; try with_reducible rfl)
    try simp only [Act.put, List.getElem_toArray, List.getElem_cons_succ, List.getElem_cons_zero, List.setIfInBounds_toArray, List.set_cons_zero, List.set_cons_succ]
    refine wpAnyH_take (i := 3) (oi := _) (v := ?vr1_1_3) rfl (by kernel_rfl) (by kernel_rfl) (by kernel_rfl) ?hqr1_1_3 (Or.inl ⟨by kernel_rfl, ?hyr1_1_3⟩) (by assumption) ?restr1_1_3
    case hqr1_1_3 => exact fun _ _ _ h => h
    case hyr1_1_3 => (intro w hSw; (try dsimp only at hSw); go_simp; try with_reducible rfl)
    try simp only [Act.put, List.getElem_toArray, List.getElem_cons_succ, List.getElem_cons_zero, List.setIfInBounds_toArray, List.set_cons_zero, List.set_cons_succ]
    refine wpAnyH_take (i := 4) (oi := _) (v := ?vr1_1_4) rfl (by kernel_rfl) (by kernel_rfl) (by kernel_rfl) ?hqr1_1_4 (Or.inl ⟨by kernel_rfl, ?hyr1_1_4⟩) (by assumption) ?restr1_1_4
    case hqr1_1_4 => exact fun _ _ _ h => h
    case hyr1_1_4 => (intro w hSw; (try dsimp only at hSw); go_simp; try with_reducible rfl)
    try simp only [Act.put, List.getElem_toArray, List.getElem_cons_succ, List.getElem_cons_zero, List.setIfInBounds_toArray, List.set_cons_zero, List.set_cons_succ]
    refine wpAnyH_take (i := 5) (oi := _) (v := ?vr1_1_5) rfl (by kernel_rfl) (by kernel_rfl) (by kernel_rfl) ?hqr1_1_5 (Or.inl ⟨by kernel_rfl, ?hyr1_1_5⟩) (by assumption) ?restr1_1_5
    case hqr1_1_5 => exact fun _ _ _ h => h
    case hyr1_1_5 => (intro w hSw; (try dsimp only at hSw); go_simp; try with_reducible rfl)
    try simp only [Act.put, List.getElem_toArray, List.getElem_cons_succ, List.getElem_cons_zero, List.setIfInBounds_toArray, List.set_cons_zero, List.set_cons_succ]
    refine wpAnyH_take (i := 6) (oi := _) (v := ?vr1_1_6) rfl (by kernel_rfl) (by kernel_rfl) (by kernel_rfl) ?hqr1_1_6 (Or.inl ⟨by kernel_rfl, ?hyr1_1_6⟩) (by assumption) ?restr1_1_6
    case hqr1_1_6 => exact fun _ _ _ h => h
    case hyr1_1_6 => (intro w hSw; (try dsimp only at hSw); go_simp; try with_reducible rfl)
    try simp only [Act.put, List.getElem_toArray, List.getElem_cons_succ, List.getElem_cons_zero, List.setIfInBounds_toArray, List.set_cons_zero, List.set_cons_succ]
    refine wpAnyH_take (i := 7) (oi := _) (v := ?vr1_1_7) rfl (by kernel_rfl) (by kernel_rfl) (by kernel_rfl) ?hqr1_1_7 (Or.inl ⟨by kernel_rfl, ?hyr1_1_7⟩) (by assumption) ?restr1_1_7
    case hqr1_1_7 => exact fun _ _ _ h => h
    case hyr1_1_7 => (intro w hSw; (try dsimp only at hSw); go_simp; try with_reducible rfl)
    try simp only [Act.put, List.getElem_toArray, List.getElem_cons_succ, List.getElem_cons_zero, List.setIfInBounds_toArray, List.set_cons_zero, List.set_cons_succ]
    refine wpAnyH_take (i := 8) (oi := _) (v := ?vr1_1_8) rfl (by kernel_rfl) (by kernel_rfl) (by kernel_rfl) ?hqr1_1_8 (Or.inl ⟨by kernel_rfl, ?hyr1_1_8⟩) (by assumption) ?restr1_1_8
    case hqr1_1_8 => exact fun _ _ _ h => h
    case hyr1_1_8 => (intro w hSw; (try dsimp only at hSw); go_simp; try with_reducible rfl)
    try simp only [Act.put, List.getElem_toArray, List.getElem_cons_succ, List.getElem_cons_zero, List.setIfInBounds_toArray, List.set_cons_zero, List.set_cons_succ]
    refine wpAnyH_ready (rs := [9]) (by kernel_rfl) (by simp) ?_
    refine AllReadyH.cons (o := _) rfl (fun K hK => ?_) AllReadyH.nil
    go_simp
    refine hK.out _ _ ?_ (fun hHr1_1 => ?_)
    · (try dsimp only); (first | assumption | (refine ⟨?_, ?_⟩ <;> go_simp))
    clear hK K hHr1_0
    try simp only [Act.put, List.getElem_toArray, List.getElem_cons_succ, List.getElem_cons_zero, List.setIfInBounds_toArray, List.set_cons_zero, List.set_cons_succ]
    refine wpAnyH_ready (rs := [10]) (by kernel_rfl) (by simp) ?_
    refine AllReadyH.cons (o := _) rfl (fun K hK => ?_) AllReadyH.nil
    go_simp
    refine hK.out _ _ ?_ (fun hHr1_2 => ?_)
    · (try dsimp only); (first | assumption | (refine ⟨?_, ?_⟩ <;> go_simp))
    clear hK K hHr1_1
    try simp only [Act.put, List.getElem_toArray, List.getElem_cons_succ, List.getElem_cons_zero, List.setIfInBounds_toArray, List.set_cons_zero, List.set_cons_succ]
    refine wpAnyH_ready (rs := [11]) (by kernel_rfl) (by simp) ?_
    refine AllReadyH.cons (o := _) rfl (fun K hK => ?_) AllReadyH.nil
    go_simp
    refine hK.out _ _ ?_ (fun hHr1_3 => ?_)
    · (try dsimp only); (first | assumption | (refine ⟨?_, ?_⟩ <;> go_simp))
    clear hK K hHr1_2
    try simp only [Act.put, List.getElem_toArray, List.getElem_cons_succ, List.getElem_cons_zero, List.setIfInBounds_toArray, List.set_cons_zero, List.set_cons_succ]
    refine wpAnyH_done (by kernel_rfl) ?_ _
    refine NoPanic.normal ?_
    have hsub : IntKind.i64.wrap ((s.length : Int) - ((s.length - m : Nat) : Int)) = m := by
      have := HB.out
      unfold maxLen at this
      rw [show (s.length : Int) - ((s.length - m : Nat) : Int) = m by omega]
      simp only [IntKind.wrap, IntKind.bits, IntKind.signed]
      simp
      omega
    rw [hsub]
    obtain ⟨Wf, hWf⟩ : ∃ V, V = ((((w1.setCell ⟨w.heap.size + 1, 0, none⟩ (.slice Av l.length cv)).setCell ⟨w.heap.size + 1, 0, none⟩ (.slice Av l.length cv)).setCell ⟨w.heap.size + 1 + 1, 0, none⟩ (.int .i64 m)).setCell ⟨w.heap.size + 1 + 1 + 1, 0, none⟩ (.int .i64 0)).drew := ⟨_, rfl⟩
    have r4 : Wf.cell? ⟨w.heap.size + 1, 0, none⟩ = some (.slice Av l.length cv) := by rw [hWf]; go_simp
    have r5 : Wf.cell? ⟨w.heap.size + 1 + 1, 0, none⟩ = some (.int .i64 m) := by rw [hWf]; go_simp
    have r6 : Wf.cell? ⟨w.heap.size + 1 + 1 + 1, 0, none⟩ = some (.int .i64 0) := by rw [hWf]; go_simp
    have h0s := HS0.out
    have hbf : Hid (Bel w Wf) := by
      have hb1 : Bel w w1 := Below.grown HB0.out hg1 HB0.out.size (fun j e => by cases e; omega)
      have := (((hb1.setCell (p := ⟨w.heap.size + 1, 0, none⟩) (by show w.heap.size ≤ w.heap.size + 1; omega) (.slice Av l.length cv)).setCell (p := ⟨w.heap.size + 1, 0, none⟩) (by show w.heap.size ≤ w.heap.size + 1; omega) (.slice Av l.length cv)).setCell (p := ⟨w.heap.size + 1 + 1, 0, none⟩) (by show w.heap.size ≤ w.heap.size + 1 + 1; omega) (.int .i64 m)).setCell (p := ⟨w.heap.size + 1 + 1 + 1, 0, none⟩) (by show w.heap.size ≤ w.heap.size + 1 + 1 + 1; omega) (.int .i64 0)
      rw [hWf]
      exact this.drew
    have hvf : Hid (ValsAt Wf (.slice Av l.length cv) l) := by
      have h1 := ownsRow_grown hown (grown_setCell w1 ⟨w.heap.size + 1, 0, none⟩ (.slice Av l.length cv)) (by show w.heap.size + 1 < _; omega)
      have h2 := ownsRow_grown h1 (grown_setCell _ ⟨w.heap.size + 1, 0, none⟩ (.slice Av l.length cv)) (by show w.heap.size + 1 < _; omega)
      have h3 := ownsRow_grown h2 (grown_setCell _ ⟨w.heap.size + 1 + 1, 0, none⟩ (.int .i64 m)) (by show w.heap.size + 1 + 1 < _; omega)
      have h4 := ownsRow_grown h3 (grown_setCell _ ⟨w.heap.size + 1 + 1 + 1, 0, none⟩ (.int .i64 0)) (by show w.heap.size + 1 + 1 + 1 < _; omega)
      have h5 := ownsRow_bel h4 (Bel.refl _).drew
      rw [hWf]
      exact ValsAt.of_own h5 rfl
    rw [← hWf]
    clear hWf hown hg1 y4 y5 y6 e4 e5 e6 htc htf hsub
    go_wp2
    refine leaves_cons (f := 81) (args := #[.pointer (some ⟨w.heap.size + 1 + 1 + 1, 0, none⟩), .func (.func 123) #[] #[.pointer (some ⟨w.heap.size + 1, 0, none⟩), .pointer (some ⟨w.heap.size + 1 + 1, 0, none⟩)]]) (by simp) (by simp [go_sem]) ?_
    refine (caught_idle _ _ _).mono ?_
    rintro e u' w'' ⟨rfl, rfl, rfl⟩
    simp [Leaves, settle, results, Tryz.results72, go_sem, r4, r5, r6]
    exact ⟨_, rfl, hvf.out, hbf.out⟩
end Go.Proofs.YtkklmflclmgjeaaGreatDoor

/-
  The codec: Decode.
-/
set_option linter.unusedVariables false
set_option linter.unusedSimpArgs false
set_option linter.unusedVariables false
set_option linter.unusedSimpArgs false
namespace Go.Proofs.YtkklmflclmgjeaaGreatDoor
open Go.RowKit Go.Shelf Go.Lib

theorem right_cols {cols : List Col} {key : List Int} {uq : List (List Int)} (h : rightS cols key uq = true) : (∀ c ∈ cols, rightB c = true) ∧ 1 ≤ cols.length ∧ cols.length ≤ 8 := by
  unfold rightS at h
  rw [Bool.and_eq_true] at h
  obtain ⟨h1, h2⟩ := h
  have h1 := of_decide_eq_true h1
  refine ⟨fun c hc => ?_, h1.1, h1.2.1⟩
  rw [Bool.and_eq_true, Bool.and_eq_true] at h2
  have h3 := List.all_eq_true.1 h2.2.1
  obtain ⟨i, hi, rfl⟩ := List.getElem_of_mem hc
  have := h3 i (List.mem_range.2 hi)
  unfold colB at this
  rw [List.getElem?_eq_getElem hi] at this
  simp at this
  exact this.1
/-- A row of bytes, decoded. -/
def decR (cols : List Col) (key : List Int) (uq : List (List Int)) (s : List UInt8) : List Val × Int := if rightS cols key uq = true then (match rdRow cols s with
  | some (l, m) => if m = s.length then (l, 0) else ([], 140)
  | none => ([], 140)) else ([], 2)
theorem vals_nil (w : World) : ValsAt w (.slice none 0 0) [] := ⟨none, 0, rfl, Nat.le_refl _, Nat.zero_le _, fun h => by simp at h⟩
set_option maxRecDepth 100000 in
set_option maxHeartbeats 1000000 in
theorem cdDecode_any (vc vk vu vb : Value) (cols : List Col) (key : List Int) (uq : List (List Int)) (s : List UInt8) (hs : s.length ≤ 1000000) (w : World) (hc : ColsAt w vc cols) (hk : IntsAt w vk key) (hu : ListsAt w vu uq) (hb : BsAt w vb s) :
    Calls Tryz.prog 42 #[.agg #[vc, vk, vu], vb] w fun e w' => ∃ v, e = .returned (.tuple #[v, .int .i64 (decR cols key uq s).2]) ∧ ValsAt w' v (decR cols key uq s).1 ∧ Bel w w' := by
  have hb0 : Bel w (w.alloc (.cells #[vc, vk, vu] 26)) := (Bel.refl w).alloc _
  have HCK := Lib.hid (scCheck_any vc vk vu cols key uq _ (hc.bel hb0) (hk.bel hb0) (hu.bel hb0))
  unfold decR
  cases hr : rightS cols key uq with
  | false =>
    rw [hr] at HCK
    have HCK := HCK
    clear hc hk hu hb
    go_enter Tryz.func42, Tryz.ntmps42
    go_wp2_with fail
    refine HCK.out.mono ?_
    rintro e w4 ⟨rfl, hb4⟩
    go_wp2
    go_ret2
    exact ⟨_, rfl, vals_nil _, hb0.then_ hb4⟩
  | true =>
    rw [hr] at HCK
    rw [if_pos rfl]
    obtain ⟨hrc, hl1, hl8⟩ := right_cols hr
    have HRE := Lib.hid (fun V (h : Bel w V) => cdread_any vc vk vu vb cols hrc (by omega) s hs V (hc.bel h) (hb.bel h))
    have HBK := Lib.hid (fun l m (h : rdRow cols s = some (l, m)) => rdRow_back hrc h)
    have hsI : (s.length : Int) ≤ 1000000 := by omega
    obtain ⟨A, c, rfl, -, -, -⟩ := hb
    obtain ⟨Ac, cc, rfl, -⟩ := hc
    obtain ⟨Ak, ck, rfl, -⟩ := hk
    obtain ⟨Au, cu, rfl, -⟩ := hu
    clear hrc hl1 hl8 hs
    generalize rdRow cols s = R at *
    cases R with
    | none =>
      clear HBK
      go_enter Tryz.func42, Tryz.ntmps42
      go_wp2_with fail
      refine HCK.out.mono ?_
      rintro e w4 ⟨rfl, hb4⟩
      have hb5 := hb0.then_ hb4
      have d0 := hb4.c (p := ⟨w.heap.size, 0, none⟩) (v := .slice Ac cols.length cc) (by go_simp)
      have d1 := hb4.c (p := ⟨w.heap.size, 1, none⟩) (v := .slice Ak key.length ck) (by go_simp)
      have d2 := hb4.c (p := ⟨w.heap.size, 2, none⟩) (v := .slice Au uq.length cu) (by go_simp)
      clear hb4 hb0
      go_wp2_with fail
      refine (HRE.out _ hb5).mono ?_
      rintro e w6 ⟨rfl, hb6⟩
      go_wp2
      go_ret2
      exact ⟨_, rfl, vals_nil _, hb5.then_ hb6⟩
    | some p =>
      obtain ⟨l, m⟩ := p
      obtain ⟨hml, -, -, -, -, -⟩ := HBK.out l m rfl
      clear HBK
      dsimp only
      have hmI : (m : Int) ≤ s.length := by omega
      by_cases he : m = s.length
      · rw [if_pos he]
        have hne : ((m : Int) != s.length) = false := by simp [he]
        subst he
        go_enter Tryz.func42, Tryz.ntmps42
        go_wp2_with fail
        refine HCK.out.mono ?_
        rintro e w4 ⟨rfl, hb4⟩
        have hb5 := hb0.then_ hb4
        have d0 := hb4.c (p := ⟨w.heap.size, 0, none⟩) (v := .slice Ac cols.length cc) (by go_simp)
        have d1 := hb4.c (p := ⟨w.heap.size, 1, none⟩) (v := .slice Ak key.length ck) (by go_simp)
        have d2 := hb4.c (p := ⟨w.heap.size, 2, none⟩) (v := .slice Au uq.length cu) (by go_simp)
        clear hb4 hb0
        go_wp2_with fail
        refine (HRE.out _ hb5).mono ?_
        rintro e w6 ⟨v, rfl, hv6, hb6⟩
        go_wp2
        go_ret2
        exact ⟨_, rfl, hv6, hb5.then_ hb6⟩
      · rw [if_neg he]
        have hne : ((m : Int) != s.length) = true := by rw [bne_iff_ne]; omega
        clear he
        go_enter Tryz.func42, Tryz.ntmps42
        go_wp2_with fail
        refine HCK.out.mono ?_
        rintro e w4 ⟨rfl, hb4⟩
        have hb5 := hb0.then_ hb4
        have d0 := hb4.c (p := ⟨w.heap.size, 0, none⟩) (v := .slice Ac cols.length cc) (by go_simp)
        have d1 := hb4.c (p := ⟨w.heap.size, 1, none⟩) (v := .slice Ak key.length ck) (by go_simp)
        have d2 := hb4.c (p := ⟨w.heap.size, 2, none⟩) (v := .slice Au uq.length cu) (by go_simp)
        clear hb4 hb0
        go_wp2_with fail
        refine (HRE.out _ hb5).mono ?_
        rintro e w6 ⟨v, rfl, hv6, hb6⟩
        go_wp2
        go_ret2
        exact ⟨_, rfl, vals_nil _, hb5.then_ hb6⟩
end Go.Proofs.YtkklmflclmgjeaaGreatDoor

/-
  The codec: plain laws of rows' bytes and of how many there are.
-/
set_option linter.unusedVariables false
set_option linter.unusedSimpArgs false
set_option linter.unusedVariables false
set_option linter.unusedSimpArgs false
namespace Go.Proofs.YtkklmflclmgjeaaGreatDoor
open Go.RowKit Go.Shelf Go.Lib

theorem row_parts {cols : List Col} {key : List Int} {uq : List (List Int)} {l : List Val} (h : rowAll cols key uq l = 0) : rightS cols key uq = true ∧ l.length = cols.length ∧ ∀ i, i < l.length → fitAt cols l i = 0 := by
  have hrs : rightS cols key uq = true := by
    unfold rowAll at h
    cases h' : rightS cols key uq
    · rw [h'] at h; simp at h
    · rfl
  have hall := row_all (cols := cols) (key := key) (uq := uq) (l := l) hrs
  rw [h] at hall
  have hall : allFit cols l (min l.length cols.length) = true := by rw [← hall]; rfl
  unfold allFit at hall
  rw [Bool.and_eq_true] at hall
  have hlen := of_decide_eq_true hall.1
  exact ⟨hrs, hlen, fun i hi => of_decide_eq_true (List.all_eq_true.1 hall.2 i (List.mem_range.2 (by omega)))⟩
theorem row_intro {cols : List Col} {key : List Int} {uq : List (List Int)} {l : List Val} (hr : rightS cols key uq = true) (hl : l.length = cols.length) (hf : ∀ i, i < l.length → fitAt cols l i = 0) : rowAll cols key uq l = 0 := by
  have hall := row_all (cols := cols) (key := key) (uq := uq) (l := l) hr
  have h2 : allFit cols l (min l.length cols.length) = true := by
    unfold allFit
    rw [decide_eq_true hl, Bool.true_and, List.all_eq_true]
    exact fun i hi => decide_eq_true (hf i (by have := List.mem_range.1 hi; omega))
  rw [h2] at hall
  exact eq_of_beq hall
/-- A row that fits is read back from its bytes. -/
theorem dec_enc {cols : List Col} {key : List Int} {uq : List (List Int)} {l : List Val} (h : rowAll cols key uq l = 0) (hw : ∀ x ∈ l, x.Wf) : decR cols key uq (encRow cols l) = (l, 0) := by
  obtain ⟨hr, hl, hf⟩ := row_parts h
  unfold decR
  have := rdRow_enc hl hf hw []
  rw [List.append_nil] at this
  rw [if_pos hr, this]
  simp
/-- The bytes of what was read are these. -/
theorem enc_dec {cols : List Col} {key : List Int} {uq : List (List Int)} {s : List UInt8} (h : (decR cols key uq s).2 = 0) : rowAll cols key uq (decR cols key uq s).1 = 0 ∧ encRow cols (decR cols key uq s).1 = s ∧ (∀ x ∈ (decR cols key uq s).1, x.Wf) ∧ (decR cols key uq s).1.length ≤ 8 := by
  unfold decR at *
  cases hr : rightS cols key uq with
  | false => rw [hr] at h; simp at h
  | true =>
    rw [hr] at h
    rw [if_pos rfl] at *
    obtain ⟨hrc, hl1, hl8⟩ := right_cols hr
    cases hq : rdRow cols s with
    | none => rw [hq] at h; simp at h
    | some p =>
      obtain ⟨l, m⟩ := p
      rw [hq] at h
      dsimp only at *
      by_cases hm : m = s.length
      · rw [if_pos hm] at *
        obtain ⟨h1, h2, h3, h4, h5, -⟩ := rdRow_back hrc hq
        refine ⟨row_intro hr h2 h4, ?_, h3, by dsimp only; omega⟩
        rw [h5, hm, List.take_length]
      · rw [if_neg hm] at h; simp at h
theorem decR_bad {cols : List Col} {key : List Int} {uq : List (List Int)} {s : List UInt8} (h : (decR cols key uq s).2 ≠ 0) : (decR cols key uq s).1 = [] := by
  unfold decR at *
  cases hr : rightS cols key uq with
  | false => simp
  | true =>
    rw [hr] at h
    rw [if_pos rfl] at *
    cases hq : rdRow cols s with
    | none => rfl
    | some p =>
      obtain ⟨l, m⟩ := p
      rw [hq] at h
      dsimp only at *
      by_cases hm : m = s.length
      · rw [if_pos hm] at h; exact absurd rfl h
      · rw [if_neg hm]
/-- No row's bytes begin another one's. -/
theorem enc_pre {cols : List Col} {key : List Int} {uq : List (List Int)} {a b : List Val} (ha : rowAll cols key uq a = 0) (hb : rowAll cols key uq b = 0) (wa : ∀ x ∈ a, x.Wf) (wb : ∀ x ∈ b, x.Wf) {r : List UInt8} (h : encRow cols b = encRow cols a ++ r) : a = b := by
  obtain ⟨-, hl, hf⟩ := row_parts ha
  obtain ⟨-, hl2, hf2⟩ := row_parts hb
  have h1 := rdRow_enc hl hf wa r
  have h2 := rdRow_enc hl2 hf2 wb []
  rw [List.append_nil, h, h1] at h2
  exact (congrArg Prod.fst (Option.some.inj h2))
theorem size_pos {t z : Int} (h : sizeB t z = true) : 0 ≤ z ∧ z ≤ 200 := by
  unfold sizeB at h
  split at h
  · have := of_decide_eq_true h; omega
  · split at h
    · have := of_decide_eq_true h; omega
    · have := of_decide_eq_true h; omega
def wA (c : Col) : Int := if c.t = 1 ∨ c.t = 2 then c.z else 1
def wZ (c : Col) : Int := if c.t = 1 ∨ c.t = 2 then c.z else if c.t = 3 then 1 else 2 + c.z
def leastC (c : Col) : Int := if c.null = true then 1 else 1 + wA c
def mostC (c : Col) : Int := 1 + wZ c
def leastS : List Col → Int
  | [] => 0
  | c :: cs => leastC c + leastS cs
def mostS : List Col → Int
  | [] => 0
  | c :: cs => mostC c + mostS cs
def widR (cols : List Col) (key : List Int) (uq : List (List Int)) : Int × Int × Int := if rightS cols key uq = true then (leastS cols, mostS cols, 0) else (0, 0, 2)
theorem leastS_app : ∀ (a : List Col) (c : Col), leastS (a ++ [c]) = leastS a + leastC c
  | [], c => by show leastC c + 0 = 0 + leastC c; omega
  | d :: a, c => by show leastC d + leastS (a ++ [c]) = leastC d + leastS a + leastC c; rw [leastS_app a c]; omega
theorem mostS_app : ∀ (a : List Col) (c : Col), mostS (a ++ [c]) = mostS a + mostC c
  | [], c => by show mostC c + 0 = 0 + mostC c; omega
  | d :: a, c => by show mostC d + mostS (a ++ [c]) = mostC d + mostS a + mostC c; rw [mostS_app a c]; omega
theorem wid_bounds {c : Col} (hr : rightB c = true) : 0 ≤ wA c ∧ wA c ≤ 200 ∧ 0 ≤ wZ c ∧ wZ c ≤ 202 := by
  obtain ⟨ht1, ht4, -, hzz⟩ := right_parts hr
  have hz := size_pos hzz
  unfold wA wZ
  split
  · omega
  · split <;> omega
theorem widS_bounds : ∀ {cols : List Col} (hr : ∀ c ∈ cols, rightB c = true), 0 ≤ leastS cols ∧ leastS cols ≤ 201 * cols.length ∧ 0 ≤ mostS cols ∧ mostS cols ≤ 203 * cols.length
  | [], _ => by simp [leastS, mostS]
  | c :: cs, hr => by
    have h1 := widS_bounds (cols := cs) (fun x hx => hr x (List.mem_cons_of_mem _ hx))
    have h2 := wid_bounds (hr c List.mem_cons_self)
    have e1 : leastS (c :: cs) = leastC c + leastS cs := rfl
    have e2 : mostS (c :: cs) = mostC c + mostS cs := rfl
    have e3 : mostC c = 1 + wZ c := rfl
    have e4 : 0 ≤ leastC c ∧ leastC c ≤ 201 := by unfold leastC; split <;> omega
    rw [List.length_cons, e1, e2, e3]
    omega
theorem encVal_wid {c : Col} {x : Val} (hf : fitsI c x = 0) : leastC c ≤ ((encVal c x).length : Int) ∧ ((encVal c x).length : Int) ≤ mostC c := by
  obtain ⟨hr, hk, hc⟩ := fits_parts hf
  obtain ⟨-, -, -, -, hsz⟩ := check_parts hk
  obtain ⟨ht1, ht4, -, hzz⟩ := right_parts hr
  have hb := wid_bounds hr
  have e3 : mostC c = 1 + wZ c := rfl
  unfold encVal leastC
  by_cases h0 : x.k = 0
  · have hn : c.null = true := by
      rcases hc with ⟨-, h⟩ | ⟨h, -⟩
      · exact h
      · exact absurd h0 h
    rw [if_pos h0, if_pos hn]
    simp
    omega
  · obtain ⟨hkt, hfit⟩ : x.k = c.t ∧ fitB c.t c.z x = true := by
      rcases hc with ⟨h, -⟩ | ⟨-, h1, h2⟩
      · exact absurd h h0
      · exact ⟨h1, h2⟩
    rw [if_neg h0, List.length_cons]
    have hbody : wA c ≤ ((encBody c x).length : Int) ∧ ((encBody c x).length : Int) ≤ wZ c := by
      unfold encBody wA wZ
      by_cases t1 : c.t = 1
      · have hz := size_num (.inl t1) hzz
        rw [if_pos t1, if_pos (.inl t1), if_pos (.inl t1), beN_length]; omega
      · by_cases t2 : c.t = 2
        · have hz := size_num (.inr t2) hzz
          rw [if_neg t1, if_pos t2, if_pos (.inr t2), if_pos (.inr t2), beN_length]; omega
        · have h12 : ¬ (c.t = 1 ∨ c.t = 2) := by omega
          by_cases t3 : c.t = 3
          · rw [if_neg t1, if_neg t2, if_pos t3, if_neg h12, if_neg h12, if_pos t3]; simp
          · have t4 : c.t = 4 := by omega
            rw [if_neg t1, if_neg t2, if_neg t3, if_neg h12, if_neg h12, if_neg t3]
            have hbl : x.b.data.toList.length = x.b.size := rfl
            have hle : (x.b.size : Int) ≤ c.z := by
              rw [t4] at hfit
              exact of_decide_eq_true hfit
            have hn1 : needN x.b.size ≤ 1 := (needN_le_iff _ 1).2 (by omega)
            unfold textB
            rw [List.length_append, numB_length, hbl]
            omega
    split <;> omega
theorem enc_wid : ∀ {cols : List Col} {l : List Val} (hl : l.length = cols.length) (hf : ∀ i, i < l.length → fitAt cols l i = 0), leastS cols ≤ ((encRow cols l).length : Int) ∧ ((encRow cols l).length : Int) ≤ mostS cols
  | [], [], _, _ => by simp [leastS, mostS, encRow]
  | [], x :: l, hl, _ => by simp at hl
  | c :: cols, [], hl, _ => by simp at hl
  | c :: cols, x :: l, hl, hf => by
    have h0 : fitsI c x = 0 := hf 0 (by simp)
    have h1 := enc_wid (cols := cols) (l := l) (by simpa using hl) (fun i hi => hf (i + 1) (by simpa using hi))
    have h2 := encVal_wid h0
    have e1 : leastS (c :: cols) = leastC c + leastS cols := rfl
    have e2 : mostS (c :: cols) = mostC c + mostS cols := rfl
    have e3 : encRow (c :: cols) (x :: l) = encVal c x ++ encRow cols l := rfl
    rw [e1, e2, e3, List.length_append]
    omega
theorem enc_short {cols : List Col} {key : List Int} {uq : List (List Int)} {l : List Val} (h : rowAll cols key uq l = 0) : (encRow cols l).length ≤ 1624 := by
  obtain ⟨hr, hl, hf⟩ := row_parts h
  obtain ⟨hrc, hl1, hl8⟩ := right_cols hr
  have h1 := enc_wid hl hf
  have h2 := widS_bounds hrc
  omega
end Go.Proofs.YtkklmflclmgjeaaGreatDoor

/-
  The codec: Width, by both.
-/
set_option linter.unusedVariables false
set_option linter.unusedSimpArgs false
set_option linter.unusedVariables false
set_option linter.unusedSimpArgs false
namespace Go.Proofs.YtkklmflclmgjeaaGreatDoor
open Go.RowKit Go.Shelf Go.Lib

set_option maxRecDepth 100000 in
theorem cdwhole_any (cn : ByteArray) (ct cz : Int) (cnl : Bool) (w : World) : Calls Tryz.prog 114 #[.agg #[.string cn, .int .i64 ct, .int .i64 cz, .bool cnl]] w fun e w' => e = .returned (.tuple #[.int .i64 cz, .int .i64 cz]) ∧ Bel w w' := by
  go_enter Tryz.func114, Tryz.ntmps114
  go_wp2_with fail
  go_quiet (fail)
  go_wp2
  go_ret2
  exact ⟨rfl, by (repeat (first | exact Below.refl _ _ | assumption | exact Bel.refl _ | refine Bel.alloc ?_ _ | refine Bel.drew ?_ | refine Bel.drewN ?_ _ | refine Bel.then_ ?_ (by assumption) | refine Bel.setCell ?_ (by first | (simp; done) | (simp; omega)) _))⟩
set_option maxRecDepth 100000 in
theorem cdkg_any (cn : ByteArray) (ct cz : Int) (cnl : Bool) (w : World) : Calls Tryz.prog 119 #[.agg #[.string cn, .int .i64 ct, .int .i64 cz, .bool cnl]] w fun e w' => e = .returned (.tuple #[.int .i64 1, .int .i64 1]) ∧ Bel w w' := by
  go_enter Tryz.func119, Tryz.ntmps119
  go_wp2
  go_ret2
  exact ⟨rfl, by (repeat (first | exact Below.refl _ _ | assumption | exact Bel.refl _ | refine Bel.alloc ?_ _ | refine Bel.drew ?_ | refine Bel.drewN ?_ _ | refine Bel.then_ ?_ (by assumption) | refine Bel.setCell ?_ (by first | (simp; done) | (simp; omega)) _))⟩
set_option maxRecDepth 100000 in
theorem cdkj_any (cn : ByteArray) (ct cz : Int) (cnl : Bool) (h0 : 0 ≤ cz) (h2 : cz ≤ 200) (w : World) : Calls Tryz.prog 122 #[.agg #[.string cn, .int .i64 ct, .int .i64 cz, .bool cnl]] w fun e w' => e = .returned (.tuple #[.int .i64 1, .int .i64 (2 + cz)]) ∧ Bel w w' := by
  have hwr : IntKind.i64.wrap (2 + cz) = 2 + cz := by
    simp only [IntKind.wrap, IntKind.bits, IntKind.signed]
    simp
    omega
  clear h0 h2
  go_enter Tryz.func122, Tryz.ntmps122
  go_wp2_with fail
  go_quiet (fail)
  go_wp2
  go_ret2
  exact ⟨rfl, by (repeat (first | exact Below.refl _ _ | assumption | exact Bel.refl _ | refine Bel.alloc ?_ _ | refine Bel.drew ?_ | refine Bel.drewN ?_ _ | refine Bel.then_ ?_ (by assumption) | refine Bel.setCell ?_ (by first | (simp; done) | (simp; omega)) _))⟩
theorem widthF_any (c : Col) (hr : rightB c = true) (w : World) : Calls Tryz.prog (widthF c.t) #[.agg #[.string c.name, .int .i64 c.t, .int .i64 c.z, .bool c.null]] w fun e w' => e = .returned (.tuple #[.int .i64 (wA c), .int .i64 (wZ c)]) ∧ Bel w w' := by
  obtain ⟨ht1, ht4, -, hzz⟩ := right_parts hr
  obtain ⟨h0, h2⟩ := size_pos hzz
  obtain ⟨cn, ct, cz, cnl⟩ := c
  dsimp only at *
  have hc : ct = 1 ∨ ct = 2 ∨ ct = 3 ∨ ct = 4 := by omega
  rcases hc with rfl | rfl | rfl | rfl
  · exact cdwhole_any cn 1 cz cnl w
  · exact cdwhole_any cn 2 cz cnl w
  · exact cdkg_any cn 3 cz cnl w
  · exact cdkj_any cn 4 cz cnl h0 h2 w
theorem widthF_enters {t : Int} (h1 : 1 ≤ t) (h4 : t ≤ 4) : ∀ args w, (callFunc (widthF t) args).run Tryz.prog w = .ok (.enter (widthF t) args) w := by
  have hc : t = 1 ∨ t = 2 ∨ t = 3 ∨ t = 4 := by omega
  rcases hc with rfl | rfl | rfl | rfl
  · exact enters_of Tryz.func114 (by kernel_rfl) rfl
  · exact enters_of Tryz.func114 (by kernel_rfl) rfl
  · exact enters_of Tryz.func119 (by kernel_rfl) rfl
  · exact enters_of Tryz.func122 (by kernel_rfl) rfl
theorem take_right {cols : List Col} (hr : ∀ c ∈ cols, rightB c = true) (k : Nat) : ∀ c ∈ cols.take k, rightB c = true := fun c hc => hr c (List.mem_of_mem_take hc)
set_option maxRecDepth 100000 in
set_option maxHeartbeats 4000000 in
theorem cdWidth_any (vc vk vu : Value) (cols : List Col) (key : List Int) (uq : List (List Int)) (w : World) (hc : ColsAt w vc cols) (hk : IntsAt w vk key) (hu : ListsAt w vu uq) :
    Calls Tryz.prog 39 #[.agg #[vc, vk, vu]] w fun e w' => e = .returned (.tuple #[.int .i64 (widR cols key uq).1, .int .i64 (widR cols key uq).2.1, .int .i64 (widR cols key uq).2.2]) ∧ Bel w w' := by
  have hb0 : Bel w (w.alloc (.cells #[vc, vk, vu] 26)) := (Bel.refl w).alloc _
  have HCK := Lib.hid (scCheck_any vc vk vu cols key uq _ (hc.bel hb0) (hk.bel hb0) (hu.bel hb0))
  unfold widR
  cases hr : rightS cols key uq with
  | false =>
    rw [hr] at HCK
    have HCK := HCK
    clear hc hk hu
    go_enter Tryz.func39, Tryz.ntmps39
    go_wp2_with fail
    refine HCK.out.mono ?_
    rintro e w4 ⟨rfl, hb4⟩
    go_wp2
    go_ret3
    exact ⟨rfl, hb0.then_ hb4⟩
  | true =>
    rw [hr] at HCK
    rw [if_pos rfl]
    obtain ⟨hrc, hl1, hl8⟩ := right_cols hr
    have HRC := Lib.hid hrc
    have HB0 := Lib.hid hb0
    obtain ⟨Ac, cc, rfl, hcc, hmc, hrd⟩ := hc
    have HRD := Lib.hid hrd
    have hcI : (cols.length : Int) ≤ 8 := by omega
    obtain ⟨LL, hLL⟩ : ∃ x, x = leastS cols := ⟨_, rfl⟩
    obtain ⟨MM, hMM⟩ : ∃ x, x = mostS cols := ⟨_, rfl⟩
    rw [← hLL, ← hMM]
    have HLL := Lib.hid hLL
    have HMM := Lib.hid hMM
    clear hrc hl1 hl8 hr hk hu hrd hcc hmc hLL hMM
    go_enter Tryz.func39, Tryz.ntmps39
    go_wp2_with fail
    refine HCK.out.mono ?_
    rintro e w4 ⟨rfl, hb4⟩
    have HB4 := Lib.hid hb4
    have q0 := hb4.c (p := ⟨w.heap.size, 0, none⟩) (v := .slice Ac cols.length cc) (by go_simp)
    clear hb4 hb0
    go_wp2
    clear q0
    go_loopw [2, 3, 17] (fun a z i wr => ∃ (k : Nat), k ≤ cols.length ∧ a = .int .i64 (leastS (cols.take k)) ∧ z = .int .i64 (mostS (cols.take k)) ∧ i = .int .i64 k ∧ Hid (Bel w4 wr)) (fun a z i _ => cols.length - (intOf i).toNat)
    case atStart => exact ⟨0, Nat.zero_le _, rfl, rfl, rfl, Bel.refl w4⟩
    case round =>
      obtain ⟨k, hk, rfl, rfl, rfl, HO⟩ := hrel
      have hbw : Bel w wr := (HB0.out.then_ HB4.out).then_ HO.out
      by_cases hlt : k < cols.length
      · obtain ⟨co, hco⟩ : ∃ co, cols[k]? = some co := ⟨_, List.getElem?_eq_getElem hlt⟩
        obtain ⟨bc, oc, rfl, hci⟩ := HRD.out (by omega)
        obtain ⟨q0, q1, q2, q3⟩ := hci k co hco
        have c0 := hbw.c q0
        have c1 := hbw.c q1
        have c2 := hbw.c q2
        have c3 := hbw.c q3
        have hkI : (k : Int) < cols.length := by omega
        have htk : cols.take (k + 1) = cols.take k ++ [co] := by rw [List.take_add_one, hco]; rfl
        have HL1 : Hid (leastS (cols.take (k + 1)) = leastS (cols.take k) + leastC co) := by show _ = _; rw [htk, leastS_app]
        have HM1 : Hid (mostS (cols.take (k + 1)) = mostS (cols.take k) + mostC co) := by show _ = _; rw [htk, mostS_app]
        have hrco := HRC.out co (List.mem_of_getElem? hco)
        have hbnd := widS_bounds (take_right HRC.out k)
        have hkl : (cols.take k).length ≤ 8 := by rw [List.length_take]; omega
        have hwb := wid_bounds hrco
        have HWD := Lib.hid (fun V => widthF_any co hrco V)
        have hLC : Hid (leastC co = (if co.null = true then 1 else 1 + wA co) ∧ mostC co = 1 + wZ co) := ⟨rfl, rfl⟩
        generalize leastS (cols.take k) = LA at *
        generalize mostS (cols.take k) = MA at *
        generalize wA co = a0 at *
        generalize wZ co = z0 at *
        have hw1 : IntKind.i64.wrap (LA + 1) = LA + 1 := by
          simp only [IntKind.wrap, IntKind.bits, IntKind.signed]; simp; omega
        have hw2 : IntKind.i64.wrap (MA + 1) = MA + 1 := by
          simp only [IntKind.wrap, IntKind.bits, IntKind.signed]; simp; omega
        have hw3 : IntKind.i64.wrap (LA + 1 + a0) = LA + 1 + a0 := by
          simp only [IntKind.wrap, IntKind.bits, IntKind.signed]; simp; omega
        have hw4 : IntKind.i64.wrap (MA + 1 + z0) = MA + 1 + z0 := by
          simp only [IntKind.wrap, IntKind.bits, IntKind.signed]; simp; omega
        obtain ⟨ht1, ht4, -, -⟩ := right_parts hrco
        obtain ⟨cn, ct, cz, cnl⟩ := co
        dsimp only at *
        have eg := widthF_enters ht1 ht4
        have hfd := ckField2
        have HLK := Lib.hid (fun (b : Nat) (V : World) (hb : V.heap[b]? = some (.map ckMap 4)) => ckLook ht1 ht4 hb)
        clear hco hci q0 q1 q2 q3 hbw htk hrco hbnd hkl hwb ht1 ht4
        go_wp2_with fail
        refine wp_name ?_
        intro W1 hW1
        have hal : Bel wr W1 := by rw [hW1]; exact (Bel.refl wr).alloc _
        have g0 : W1.cell? ⟨wr.heap.size, 0, none⟩ = some (.string cn) := by rw [hW1]; go_simp
        have g1 : W1.cell? ⟨wr.heap.size, 1, none⟩ = some (.int .i64 ct) := by rw [hW1]; go_simp
        have g2 : W1.cell? ⟨wr.heap.size, 2, none⟩ = some (.int .i64 cz) := by rw [hW1]; go_simp
        have g3 : W1.cell? ⟨wr.heap.size, 3, none⟩ = some (.bool cnl) := by rw [hW1]; go_simp
        have HS1 : Hid (∀ V, Bel W1 V → (fun V : World => Bel w4 V ∧ V.cell? ⟨wr.heap.size, 0, none⟩ = some (.string cn) ∧ V.cell? ⟨wr.heap.size, 1, none⟩ = some (.int .i64 ct) ∧ V.cell? ⟨wr.heap.size, 2, none⟩ = some (.int .i64 cz) ∧ V.cell? ⟨wr.heap.size, 3, none⟩ = some (.bool cnl)) V) := fun V h => ⟨(HO.out.then_ hal).then_ h, h.c g0, h.c g1, h.c g2, h.c g3⟩
        clear hW1 hal g0 g1 g2 g3
        refine wp_region_noPanic ?_
        refine wp_region_held_drew (S := (fun V : World => Bel w4 V ∧ V.cell? ⟨wr.heap.size, 0, none⟩ = some (.string cn) ∧ V.cell? ⟨wr.heap.size, 1, none⟩ = some (.int .i64 ct) ∧ V.cell? ⟨wr.heap.size, 2, none⟩ = some (.int .i64 cz) ∧ V.cell? ⟨wr.heap.size, 3, none⟩ = some (.bool cnl))) (by kernel_rfl) ?_ (fun hHr1_0 => ?_)
        · (try dsimp only); (first | assumption | exact HS1.out _ (Bel.refl _).drew | exact HS1.out _ ((Bel.refl _).drew.then_ hb10) | exact HS1.out _ (((Bel.refl _).drew.then_ hb10).then_ hb11))
        refine wpAnyH_take (i := 1) (oi := _) (v := ?vr1_1_1) rfl (by kernel_rfl) (by kernel_rfl) (by kernel_rfl) ?hqr1_1_1 (Or.inl ⟨by kernel_rfl, ?hyr1_1_1⟩) (by assumption) ?restr1_1_1
        case hqr1_1_1 => exact fun _ _ _ h => h
        case hyr1_1_1 => (intro w hSw; (try dsimp only at hSw); go_simp; try with_reducible rfl)
        try simp only [Act.put, List.getElem_toArray, List.getElem_cons_succ, List.getElem_cons_zero, List.setIfInBounds_toArray, List.set_cons_zero, List.set_cons_succ]
        refine wpAnyH_take (i := 2) (oi := _) (v := ?vr1_1_2) rfl (by kernel_rfl) (by kernel_rfl) (by kernel_rfl) ?hqr1_1_2 (Or.inl ⟨by kernel_rfl, ?hyr1_1_2⟩) (by assumption) ?restr1_1_2
        case hqr1_1_2 => exact fun _ _ _ h => h
        case hyr1_1_2 => (intro w hSw; (try dsimp only at hSw); go_simp; try with_reducible rfl)
        try simp only [Act.put, List.getElem_toArray, List.getElem_cons_succ, List.getElem_cons_zero, List.setIfInBounds_toArray, List.set_cons_zero, List.set_cons_succ]
        refine wpAnyH_take (i := 5) (oi := _) (v := ?vr1_1_5) rfl (by kernel_rfl) (by kernel_rfl) (by kernel_rfl) ?hqr1_1_5 (Or.inl ⟨by kernel_rfl, ?hyr1_1_5⟩) (by assumption) ?restr1_1_5
        case hqr1_1_5 => exact fun _ _ _ h => h
        case hyr1_1_5 => (intro w hSw; (try dsimp only at hSw); go_simp; try with_reducible rfl)
        try simp only [Act.put, List.getElem_toArray, List.getElem_cons_succ, List.getElem_cons_zero, List.setIfInBounds_toArray, List.set_cons_zero, List.set_cons_succ]
        refine wpAnyH_ready (rs := [0]) (by kernel_rfl) (by simp) ?_
        refine AllReadyH.cons (o := _) rfl (fun K hK => ?_) AllReadyH.nil
        go_simp
        (go_at_call 70; refine (cdkinds_any _).mono ?_; rintro e w10 ⟨bm, rfl, hmap, hb10⟩; have hlk := HLK.out bm w10 hmap)
        try (go_wp2_with fail)
        refine hK.out _ _ ?_ (fun hHr1_1 => ?_)
        · (try dsimp only); (first | assumption | exact HS1.out _ (Bel.refl _).drew | exact HS1.out _ ((Bel.refl _).drew.then_ hb10) | exact HS1.out _ (((Bel.refl _).drew.then_ hb10).then_ hb11))
        clear hK K hHr1_0
        try simp only [Act.put, List.getElem_toArray, List.getElem_cons_succ, List.getElem_cons_zero, List.setIfInBounds_toArray, List.set_cons_zero, List.set_cons_succ]
        refine wpAnyH_ready (rs := [3]) (by kernel_rfl) (by simp) ?_
        refine AllReadyH.cons (o := _) rfl (fun K hK => ?_) AllReadyH.nil
        go_simp
        refine hK.out _ _ ?_ (fun hHr1_2 => ?_)
        · (try dsimp only); (first | assumption | exact HS1.out _ (Bel.refl _).drew | exact HS1.out _ ((Bel.refl _).drew.then_ hb10) | exact HS1.out _ (((Bel.refl _).drew.then_ hb10).then_ hb11))
        clear hK K hHr1_1
        try simp only [Act.put, List.getElem_toArray, List.getElem_cons_succ, List.getElem_cons_zero, List.setIfInBounds_toArray, List.set_cons_zero, List.set_cons_succ]
        refine wpAnyH_take (i := 4) (oi := _) (v := ?vr1_1_4) rfl (by kernel_rfl) (by kernel_rfl) (by kernel_rfl) ?hqr1_1_4 (Or.inl ⟨by kernel_rfl, ?hyr1_1_4⟩) (by assumption) ?restr1_1_4
        case hqr1_1_4 => exact fun _ _ _ h => h
        case hyr1_1_4 => (intro w hSw; (try dsimp only at hSw); go_simp; try with_reducible rfl)
        try simp only [Act.put, List.getElem_toArray, List.getElem_cons_succ, List.getElem_cons_zero, List.setIfInBounds_toArray, List.set_cons_zero, List.set_cons_succ]
        refine wpAnyH_ready (rs := [6]) (by kernel_rfl) (by simp) ?_
        refine AllReadyH.cons (o := _) rfl (fun K hK => ?_) AllReadyH.nil
        go_simp
        (go_at_fn (widthF ct); refine (HWD.out _).mono ?_; rintro e w11 ⟨rfl, hb11⟩)
        try (go_wp2_with fail)
        refine hK.out _ _ ?_ (fun hHr1_3 => ?_)
        · (try dsimp only); (first | assumption | exact HS1.out _ (Bel.refl _).drew | exact HS1.out _ ((Bel.refl _).drew.then_ hb10) | exact HS1.out _ (((Bel.refl _).drew.then_ hb10).then_ hb11))
        clear hK K hHr1_2
        try simp only [Act.put, List.getElem_toArray, List.getElem_cons_succ, List.getElem_cons_zero, List.setIfInBounds_toArray, List.set_cons_zero, List.set_cons_succ]
        refine wpAnyH_take (i := 7) (oi := _) (v := ?vr1_1_7) rfl (by kernel_rfl) (by kernel_rfl) (by kernel_rfl) ?hqr1_1_7 (Or.inl ⟨by kernel_rfl, ?hyr1_1_7⟩) (by assumption) ?restr1_1_7
        case hqr1_1_7 => exact fun _ _ _ h => h
        case hyr1_1_7 => (intro w hSw; (try dsimp only at hSw); go_simp; try with_reducible rfl)
        try simp only [Act.put, List.getElem_toArray, List.getElem_cons_succ, List.getElem_cons_zero, List.setIfInBounds_toArray, List.set_cons_zero, List.set_cons_succ]
        refine wpAnyH_take (i := 8) (oi := _) (v := ?vr1_1_8) rfl (by kernel_rfl) (by kernel_rfl) (by kernel_rfl) ?hqr1_1_8 (Or.inl ⟨by kernel_rfl, ?hyr1_1_8⟩) (by assumption) ?restr1_1_8
        case hqr1_1_8 => exact fun _ _ _ h => h
        case hyr1_1_8 => (intro w hSw; (try dsimp only at hSw); go_simp; try with_reducible rfl)
        try simp only [Act.put, List.getElem_toArray, List.getElem_cons_succ, List.getElem_cons_zero, List.setIfInBounds_toArray, List.set_cons_zero, List.set_cons_succ]
        refine wpAnyH_take (i := 9) (oi := _) (v := ?vr1_1_9) rfl (by kernel_rfl) (by kernel_rfl) (by kernel_rfl) ?hqr1_1_9 (Or.inl ⟨by kernel_rfl, ?hyr1_1_9⟩) (by assumption) ?restr1_1_9
        case hqr1_1_9 => exact fun _ _ _ h => h
        case hyr1_1_9 => (intro w hSw; (try dsimp only at hSw); go_simp; try with_reducible rfl)
        try simp only [Act.put, List.getElem_toArray, List.getElem_cons_succ, List.getElem_cons_zero, List.setIfInBounds_toArray, List.set_cons_zero, List.set_cons_succ]
        refine wpAnyH_take (i := 10) (oi := _) (v := ?vr1_1_10) rfl (by kernel_rfl) (by kernel_rfl) (by kernel_rfl) ?hqr1_1_10 (Or.inl ⟨by kernel_rfl, ?hyr1_1_10⟩) (by assumption) ?restr1_1_10
        case hqr1_1_10 => exact fun _ _ _ h => h
        case hyr1_1_10 => (intro w hSw; (try dsimp only at hSw); go_simp; try with_reducible rfl)
        try simp only [Act.put, List.getElem_toArray, List.getElem_cons_succ, List.getElem_cons_zero, List.setIfInBounds_toArray, List.set_cons_zero, List.set_cons_succ]
        refine wpAnyH_take (i := 11) (oi := _) (v := ?vr1_1_11) rfl (by kernel_rfl) (by kernel_rfl) (by kernel_rfl) ?hqr1_1_11 (Or.inl ⟨by kernel_rfl, ?hyr1_1_11⟩) (by assumption) ?restr1_1_11
        case hqr1_1_11 => exact fun _ _ _ h => h
        case hyr1_1_11 => (intro w hSw; (try dsimp only at hSw); go_simp; try with_reducible rfl)
        try simp only [Act.put, List.getElem_toArray, List.getElem_cons_succ, List.getElem_cons_zero, List.setIfInBounds_toArray, List.set_cons_zero, List.set_cons_succ]
        refine wpAnyH_done (by kernel_rfl) ?_ _
        refine NoPanic.normal ?_
        have HS11 := HS1.out _ (((Bel.refl _).drew.then_ hb10).then_ hb11)
        obtain ⟨hbf, g0, g1, g2, g3⟩ := HS11
        cases cnl
        · go_wp2
          go_roundw
          case rel =>
            have e1 := HL1.out
            have e2 := HM1.out
            rw [hLC.out.1] at e1
            rw [hLC.out.2] at e2
            simp at e1
            exact ⟨k + 1, by omega, congrArg _ (by omega), congrArg _ (by omega), by go_num, hbf⟩
          case measure => simp [intOf]; omega
        · go_wp2
          go_roundw
          case rel =>
            have e1 := HL1.out
            have e2 := HM1.out
            rw [hLC.out.1] at e1
            rw [hLC.out.2] at e2
            simp at e1
            exact ⟨k + 1, by omega, congrArg _ (by omega), congrArg _ (by omega), by go_num, hbf⟩
          case measure => simp [intOf]; omega
      · obtain rfl : k = cols.length := by omega
        have e1 := HLL.out
        have e2 := HMM.out
        rw [List.take_length, ← e1, ← e2]
        clear e1 e2 hlt hk
        have HBW := Lib.hid hbw
        clear hbw
        go_wp2
        go_ret3
        exact ⟨rfl, HBW.out⟩
set_option maxRecDepth 100000 in
set_option maxHeartbeats 4000000 in
theorem r4Width_any (vc vk vu : Value) (cols : List Col) (key : List Int) (uq : List (List Int)) (w : World) (hc : ColsAt w vc cols) (hk : IntsAt w vk key) (hu : ListsAt w vu uq) (hnm : ∀ c ∈ cols, c.name.size ≤ 9223372036854775807) :
    Calls Tryz.prog 40 #[.agg #[vc, vk, vu]] w fun e w' => e = .returned (.tuple #[.int .i64 (widR cols key uq).1, .int .i64 (widR cols key uq).2.1, .int .i64 (widR cols key uq).2.2]) ∧ Bel w w' := by
  have hb0 : Bel w (w.alloc (.cells #[vc, vk, vu] 26)) := (Bel.refl w).alloc _
  have HCK := Lib.hid (tRight_any vc vk vu cols key uq _ (hc.bel hb0) (hk.bel hb0) (hu.bel hb0) hnm)
  unfold widR
  cases hr : rightS cols key uq with
  | false =>
    rw [hr] at HCK
    have HCK := HCK
    clear hc hk hu
    go_enter Tryz.func40, Tryz.ntmps40
    go_wp2_with fail
    refine HCK.out.mono ?_
    rintro e w4 ⟨rfl, hb4⟩
    go_wp2
    go_ret3
    exact ⟨rfl, hb0.then_ hb4⟩
  | true =>
    rw [hr] at HCK
    rw [if_pos rfl]
    obtain ⟨hrc, hl1, hl8⟩ := right_cols hr
    have HRC := Lib.hid hrc
    have HB0 := Lib.hid hb0
    obtain ⟨Ac, cc, rfl, hcc, hmc, hrd⟩ := hc
    have HRD := Lib.hid hrd
    have hcI : (cols.length : Int) ≤ 8 := by omega
    obtain ⟨LL, hLL⟩ : ∃ x, x = leastS cols := ⟨_, rfl⟩
    obtain ⟨MM, hMM⟩ : ∃ x, x = mostS cols := ⟨_, rfl⟩
    rw [← hLL, ← hMM]
    have HLL := Lib.hid hLL
    have HMM := Lib.hid hMM
    clear hrc hl1 hl8 hr hk hu hrd hcc hmc hLL hMM hnm
    go_enter Tryz.func40, Tryz.ntmps40
    go_wp2_with fail
    refine HCK.out.mono ?_
    rintro e w4 ⟨rfl, hb4⟩
    have HB4 := Lib.hid hb4
    clear hb4 hb0
    go_wp2
    go_loopw [5, 6, 7] (fun a z i wr => ∃ (k : Nat), k ≤ cols.length ∧ a = .int .i64 (leastS (cols.take k)) ∧ z = .int .i64 (mostS (cols.take k)) ∧ i = .int .i64 k ∧ Hid (Bel w4 wr)) (fun a z i _ => cols.length - (intOf i).toNat)
    case atStart => exact ⟨0, Nat.zero_le _, rfl, rfl, rfl, Bel.refl w4⟩
    case round =>
      obtain ⟨k, hk, rfl, rfl, rfl, HO⟩ := hrel
      have hbw : Bel w wr := (HB0.out.then_ HB4.out).then_ HO.out
      have l0 : wr.cell? ⟨w.heap.size, 0, none⟩ = some (.slice Ac cols.length cc) := HO.out.c (HB4.out.c (by go_simp))
      by_cases hlt : k < cols.length
      · obtain ⟨co, hco⟩ : ∃ co, cols[k]? = some co := ⟨_, List.getElem?_eq_getElem hlt⟩
        obtain ⟨bc, oc, rfl, hci⟩ := HRD.out (by omega)
        obtain ⟨q0, q1, q2, q3⟩ := hci k co hco
        have c0 := hbw.c q0
        have c1 := hbw.c q1
        have c2 := hbw.c q2
        have c3 := hbw.c q3
        have hkI : (k : Int) < cols.length := by omega
        have htk : cols.take (k + 1) = cols.take k ++ [co] := by rw [List.take_add_one, hco]; rfl
        have HL1 : Hid (leastS (cols.take (k + 1)) = leastS (cols.take k) + leastC co) := by show _ = _; rw [htk, leastS_app]
        have HM1 : Hid (mostS (cols.take (k + 1)) = mostS (cols.take k) + mostC co) := by show _ = _; rw [htk, mostS_app]
        have hrco := HRC.out co (List.mem_of_getElem? hco)
        have hbnd := widS_bounds (take_right HRC.out k)
        have hkl : (cols.take k).length ≤ 8 := by rw [List.length_take]; omega
        generalize leastS (cols.take k) = LA at *
        generalize mostS (cols.take k) = MA at *
        obtain ⟨ht1, ht4, -, hzz⟩ := right_parts hrco
        obtain ⟨hz0, hz2⟩ := size_pos hzz
        obtain ⟨cn, ct, cz, cnl⟩ := co
        dsimp only at *
        have hwr : ∀ x : Int, 0 ≤ x → x ≤ 100000 → IntKind.i64.wrap x = x := fun x h1 h2 => by
          simp only [IntKind.wrap, IntKind.bits, IntKind.signed]; simp; omega
        have hv1 : IntKind.i64.wrap (1 + cz) = 1 + cz := hwr _ (by omega) (by omega)
        have hv3 : IntKind.i64.wrap (3 + cz) = 3 + cz := hwr _ (by omega) (by omega)
        have ha1 : IntKind.i64.wrap (LA + 1) = LA + 1 := hwr _ (by omega) (by omega)
        have ha2 : IntKind.i64.wrap (LA + 2) = LA + 2 := hwr _ (by omega) (by omega)
        have ha3 : IntKind.i64.wrap (LA + (1 + cz)) = LA + (1 + cz) := hwr _ (by omega) (by omega)
        have hm2 : IntKind.i64.wrap (MA + 2) = MA + 2 := hwr _ (by omega) (by omega)
        have hm3 : IntKind.i64.wrap (MA + (1 + cz)) = MA + (1 + cz) := hwr _ (by omega) (by omega)
        have hm4 : IntKind.i64.wrap (MA + (3 + cz)) = MA + (3 + cz) := hwr _ (by omega) (by omega)
        have hwsz : w.heap.size < wr.heap.size := World.block_lt_of_cell? (w := wr) (a := ⟨w.heap.size, 0, none⟩) l0
        have hbcl : bc < wr.heap.size := World.block_lt_of_cell? (w := wr) (a := ⟨bc, oc + k * 4, none⟩) c0
        have hct : ct = 1 ∨ ct = 2 ∨ ct = 3 ∨ ct = 4 := by omega
        clear hco hci q0 q1 q2 q3 hbw htk hrco hbnd hkl ht1 ht4 hwr hz0 hz2 hzz
        rcases hct with rfl | rfl | rfl | rfl <;> cases cnl <;>
        · go_wp2_with fail
          go_quiet (fail)
          go_wp2_with fail
          try (go_quiet (fail))
          go_wp2
          go_roundw
          case rel =>
            have e1 := HL1.out
            have e2 := HM1.out
            simp [leastC, mostC, wA, wZ] at e1 e2
            exact ⟨k + 1, by omega, congrArg _ (by omega), congrArg _ (by omega), by go_num, by have hb9 := HO.out; exact by (repeat (first | exact Below.refl _ _ | assumption | exact Bel.refl _ | refine Bel.alloc ?_ _ | refine Bel.drew ?_ | refine Bel.drewN ?_ _ | refine Bel.then_ ?_ (by assumption) | refine Bel.setCell ?_ (by first | (simp; done) | (simp; omega)) _))⟩
          case measure => simp [intOf]; omega
      · obtain rfl : k = cols.length := by omega
        have e1 := HLL.out
        have e2 := HMM.out
        rw [List.take_length, ← e1, ← e2]
        clear e1 e2 hlt hk
        have HBW := Lib.hid hbw
        clear hbw
        go_wp2
        go_ret3
        exact ⟨rfl, HBW.out⟩
end Go.Proofs.YtkklmflclmgjeaaGreatDoor

/-
  The codec's statements: few, short, num.
-/
set_option linter.unusedVariables false
set_option linter.unusedSimpArgs false
set_option linter.unusedVariables false
set_option linter.unusedSimpArgs false
namespace Go.Proofs.YtkklmflclmgjeaaGreatDoor
open Go.RowKit Go.Shelf Go.Lib
attribute [local go_sem] Oper.semAt_some

theorem knum_any (a : Int) (w : World) : Calls Tryz.prog 41 #[.int .i64 a] w fun e w' => e = .returned (.int .i64 a) ∧ w = w' := by
  go_enter Tryz.func41, Tryz.ntmps41
  go_wp2
  go_ret
  exact ⟨rfl, rfl⟩
def shortB (l : List Val) : Bool := decide (l.length ≤ 12) && l.all fun x => decide (x.b.size ≤ 300)
set_option maxRecDepth 100000 in
set_option maxHeartbeats 4000000 in
theorem kshort_any (vl : Value) (l : List Val) (w : World) (hl : ValsAt w vl l) (hsz : ∀ x ∈ l, x.b.size ≤ maxLen) : Calls Tryz.prog 35 #[vl, .int .i64 12] w fun e w' => e = .returned (.bool (shortB l)) ∧ w = w' := by
  obtain ⟨bb, hbb⟩ : ∃ b, b = shortB l := ⟨_, rfl⟩
  rw [← hbb]
  have HBB := Lib.hid hbb
  obtain ⟨A, c, rfl, hcl, hm, hr⟩ := hl
  have hlI : (l.length : Int) ≤ 9223372036854775807 := by unfold maxLen at hm; omega
  have HR := Lib.hid hr
  have HSZ := Lib.hid hsz
  clear hr hm hbb hsz
  go_enter Tryz.func35, Tryz.ntmps35
  go_wp2
  go_loopw [5] (fun i wr => ∃ k : Nat, k ≤ l.length ∧ k ≤ 13 ∧ i = .int .i64 k ∧ wr = w ∧ Hid (∀ x ∈ l.take k, x.b.size ≤ 300)) (fun i _ => 13 - (intOf i).toNat)
  case atStart => exact ⟨0, Nat.zero_le _, by omega, rfl, rfl, fun x hx => by simp at hx⟩
  case round =>
    obtain ⟨k, hk, hk21, rfl, hwr, HT⟩ := hrel
    have hwr' := hwr.symm
    clear hwr
    subst hwr'
    by_cases hlt : k < l.length ∧ k ≤ 12
    · obtain ⟨x, hx⟩ : ∃ x, l[k]? = some x := ⟨_, List.getElem?_eq_getElem hlt.1⟩
      have hmem := List.mem_of_getElem? hx
      have hxm := HSZ.out x hmem
      have hxI : (x.b.size : Int) ≤ 9223372036854775807 := by unfold maxLen at hxm; omega
      obtain ⟨g, off, rfl, hi⟩ := HR.out (by omega)
      obtain ⟨c0, c1, c2, c3⟩ := hi k x hx
      have hkI : (k : Int) < l.length := by omega
      have hk20 : (k : Int) ≤ 12 := by omega
      have HTK : Hid (x.b.size ≤ 300 → ∀ y ∈ l.take (k + 1), y.b.size ≤ 300) := fun h y hy => by
        rw [List.take_add_one, hx] at hy
        rcases List.mem_append.1 hy with hy | hy
        · exact HT.out y hy
        · simp at hy; subst hy; exact h
      have HNB : Hid (¬ x.b.size ≤ 300 → bb = false) := fun h => by
        rw [HBB.out]; unfold shortB
        rw [show (l.all fun x => decide (x.b.size ≤ 300)) = false by rw [List.all_eq_false]; exact ⟨x, hmem, by simpa using h⟩]
        simp
      have HLT := Lib.hid hlt
      clear hi hx hmem hxm hlt
      by_cases hz : x.b.size ≤ 300
      · have hzb : decide ((300 : Int) < x.b.size) = false := by simp; omega
        go_wp2
        go_roundw
        case rel => exact ⟨k + 1, by have := HLT.out; omega, by have := HLT.out; omega, by go_num, by first | rfl | trivial, HTK.out hz⟩
        case measure => have := HLT.out; simp [intOf]; omega
      · have hbf := HNB.out hz
        have hz2 : (300 : Int) < x.b.size := by omega
        go_wp2
        go_ret
        exact ⟨by first | rfl | (rw [hbf]; rfl), rfl⟩
    · by_cases hL : l.length ≤ 12
      · obtain rfl : k = l.length := by omega
        have hbt : bb = true := by rw [HBB.out]; unfold shortB; rw [decide_eq_true hL, Bool.true_and, List.all_eq_true]; exact fun x hx => decide_eq_true (HT.out x (by rw [List.take_length]; exact hx))
        have hLI : (l.length : Int) ≤ 12 := by omega
        clear hlt hk hk21 hL
        go_wp2
        go_ret
        exact ⟨by first | rfl | (rw [hbt]; rfl), rfl⟩
      · obtain rfl : k = 13 := by omega
        have hbf : bb = false := by rw [HBB.out]; unfold shortB; rw [decide_eq_false hL]; rfl
        have hLI : (12 : Int) < l.length := by omega
        have hdd : decide ((l.length : Int) ≤ 12) = false := decide_eq_false (by omega)
        clear hlt hk hk21 hL
        go_wp2
        all_goals
          go_ret
          exact ⟨by first | rfl | (rw [hbf]; rfl), rfl⟩
def fewB (cols : List Col) (key : List Int) (uq : List (List Int)) : Bool := decide (cols.length ≤ 12 ∧ key.length ≤ 8 ∧ uq.length ≤ 6) && (cols.all (fun c => decide (c.name.size ≤ 40)) && uq.all (fun l => decide (l.length ≤ 8)))
set_option maxRecDepth 100000 in
set_option maxHeartbeats 4000000 in
theorem kfew_any (vc vk vu : Value) (cols : List Col) (key : List Int) (uq : List (List Int)) (w : World) (hc : ColsAt w vc cols) (hk : IntsAt w vk key) (hu : ListsAt w vu uq) (hnm : ∀ c ∈ cols, c.name.size ≤ maxLen) :
    Calls Tryz.prog 34 #[.agg #[vc, vk, vu]] w fun e w' => e = .returned (.bool (fewB cols key uq)) ∧ Bel w w' := by
  obtain ⟨R, hR⟩ : ∃ R, R = fewB cols key uq := ⟨_, rfl⟩
  rw [← hR]
  have HR := Lib.hid hR
  clear hR
  have HNM := Lib.hid hnm
  obtain ⟨Ac, cc, rfl, hcc, hmc, hrc⟩ := hc
  obtain ⟨Ak, ck, rfl, hck, hmk, hrk⟩ := hk
  obtain ⟨Au, cu, rfl, hcu, hmu, hru⟩ := hu
  have HRC := Lib.hid hrc
  have HRU := Lib.hid hru
  have hnI : (cols.length : Int) ≤ 9223372036854775807 := by unfold maxLen at hmc; omega
  have huI : (uq.length : Int) ≤ 9223372036854775807 := by unfold maxLen at hmu; omega
  have hkI : (key.length : Int) ≤ 9223372036854775807 := by unfold maxLen at hmk; omega
  clear hrc hru hrk hmu hmc hmk hnm
  have hb0 : Bel w (w.alloc (.cells #[.slice Ac cols.length cc, .slice Ak key.length ck, .slice Au uq.length cu] 26)) := (Bel.refl w).alloc _
  by_cases n1 : (12 : Int) < cols.length
  · have hf : R = false := by rw [HR.out]; unfold fewB; rw [decide_eq_false (by omega)]; rfl
    go_enter Tryz.func34, Tryz.ntmps34
    go_wp2_with fail
    go_ret
    exact ⟨by first | rfl | (rw [hf]; rfl), hb0⟩
  · have n1b : decide ((12 : Int) < cols.length) = false := by simp; omega
    by_cases n2 : (8 : Int) < key.length
    · have hf : R = false := by rw [HR.out]; unfold fewB; rw [decide_eq_false (by omega)]; rfl
      go_enter Tryz.func34, Tryz.ntmps34
      go_wp2_with fail
      go_ret
      exact ⟨by first | rfl | (rw [hf]; rfl), hb0⟩
    · have n2b : decide ((8 : Int) < key.length) = false := by simp; omega
      by_cases n3 : (6 : Int) < uq.length
      · have hf : R = false := by rw [HR.out]; unfold fewB; rw [decide_eq_false (by omega)]; rfl
        go_enter Tryz.func34, Tryz.ntmps34
        go_wp2_with fail
        go_ret
        exact ⟨by first | rfl | (rw [hf]; rfl), hb0⟩
      · have n3b : decide ((6 : Int) < uq.length) = false := by simp; omega
        have HRN : Hid (R = (cols.all (fun c => decide (c.name.size ≤ 40)) && uq.all (fun l => decide (l.length ≤ 8)))) := by show _ = _; rw [HR.out]; unfold fewB; rw [decide_eq_true (by omega)]; rfl
        go_enter Tryz.func34, Tryz.ntmps34
        go_wp2
        have HB0 := Lib.hid hb0
        clear hb0
        go_loopw [3] (fun i wr => ∃ k : Nat, k ≤ cols.length ∧ i = .int .i64 k ∧ Hid (Bel (w.alloc (.cells #[.slice Ac cols.length cc, .slice Ak key.length ck, .slice Au uq.length cu] 26)) wr) ∧ Hid ((cols.take k).all (fun c => decide (c.name.size ≤ 40)) = true)) (fun i _ => cols.length - (intOf i).toNat)
        case atStart => exact ⟨0, Nat.zero_le _, rfl, Bel.refl _, by show _ = _; simp⟩
        case round =>
          obtain ⟨k, hk, rfl, HB, HT⟩ := hrel
          have l0 : wr.cell? ⟨w.heap.size, 0, none⟩ = some (.slice Ac cols.length cc) := HB.out.c (by go_simp)
          have l2 : wr.cell? ⟨w.heap.size, 2, none⟩ = some (.slice Au uq.length cu) := HB.out.c (by go_simp)
          by_cases hlt : k < cols.length
          · obtain ⟨x, hx⟩ : ∃ x, cols[k]? = some x := ⟨_, List.getElem?_eq_getElem hlt⟩
            obtain ⟨b, off, rfl, hci⟩ := HRC.out (by omega)
            have p0 := (HB0.out.then_ HB.out).c (hci k x hx).1
            have hkI2 : (k : Int) < cols.length := by omega
            have hmem := List.mem_of_getElem? hx
            have hxm := HNM.out x hmem
            have hxI : (x.name.size : Int) ≤ 9223372036854775807 := by unfold maxLen at hxm; omega
            have HJN : Hid (x.name.size ≤ 40 → (cols.take (k + 1)).all (fun c => decide (c.name.size ≤ 40)) = true) := fun e => by
              rw [List.take_add_one, hx, List.all_append, HT.out]
              simp [e]
            have HNO : Hid (¬ x.name.size ≤ 40 → R = false) := fun e => by
              rw [HRN.out, show cols.all (fun c => decide (c.name.size ≤ 40)) = false by rw [List.all_eq_false]; exact ⟨x, hmem, by simpa using e⟩]
              rfl
            clear hx hci hmem hxm
            by_cases hz : x.name.size ≤ 40
            · have hzb : decide ((40 : Int) < x.name.size) = false := by simp; omega
              have ht := Lib.hid (HJN.out hz)
              go_wp2
              go_roundw
              case rel => exact ⟨k + 1, by omega, by go_num, HB.out, ht.out⟩
              case measure => simp [intOf]; omega
            · have hzb : (40 : Int) < x.name.size := by omega
              have hf := HNO.out hz
              go_wp2
              go_ret
              exact ⟨by first | rfl | (rw [hf]; rfl), HB0.out.then_ HB.out⟩
          · obtain rfl : k = cols.length := by omega
            have HRM : Hid (R = uq.all (fun l => decide (l.length ≤ 8))) := by
              show _ = _
              have := HT.out
              rw [List.take_length] at this
              rw [HRN.out, this]; rfl
            have HBX := Lib.hid (HB0.out.then_ HB.out)
            have HL2 := Lib.hid l2
            clear HT hlt hk HRN
            go_wp2
            clear l0 l2
            go_loopw [4] (fun i wu => ∃ k : Nat, k ≤ uq.length ∧ i = .int .i64 k ∧ Hid (Bel wr wu) ∧ Hid ((uq.take k).all (fun l => decide (l.length ≤ 8)) = true)) (fun i _ => uq.length - (intOf i).toNat)
            case atStart => exact ⟨0, Nat.zero_le _, rfl, Bel.refl _, by show _ = _; simp⟩
            case round =>
              obtain ⟨j, hj, rfl, HBU, HT⟩ := hrel
              have l2 := HBU.out.c HL2.out
              by_cases hlt : j < uq.length
              · obtain ⟨y, hy⟩ : ∃ y, uq[j]? = some y := ⟨_, List.getElem?_eq_getElem hlt⟩
                obtain ⟨bu, ou, rfl, hui⟩ := HRU.out (by omega)
                obtain ⟨u, hu0, A2, c2, rfl, hc2, hm2, -⟩ := hui j y hy
                have p0 := (HBX.out.then_ HBU.out).c hu0
                have hjI : (j : Int) < uq.length := by omega
                have hyI : (y.length : Int) ≤ 9223372036854775807 := by unfold maxLen at hm2; omega
                have hmem := List.mem_of_getElem? hy
                have HJN : Hid (y.length ≤ 8 → (uq.take (j + 1)).all (fun l => decide (l.length ≤ 8)) = true) := fun e => by
                  rw [List.take_add_one, hy, List.all_append, HT.out]
                  simp [e]
                have HNO : Hid (¬ y.length ≤ 8 → R = false) := fun e => by
                  rw [HRM.out, show uq.all (fun l => decide (l.length ≤ 8)) = false by rw [List.all_eq_false]; exact ⟨y, hmem, by simpa using e⟩]
                clear hy hui hmem hu0
                by_cases hz : y.length ≤ 8
                · have hzb : decide ((8 : Int) < y.length) = false := by simp; omega
                  have ht := Lib.hid (HJN.out hz)
                  go_wp2
                  go_roundw
                  case rel => exact ⟨j + 1, by omega, by go_num, HBU.out, ht.out⟩
                  case measure => simp [intOf]; omega
                · have hzb : (8 : Int) < y.length := by omega
                  have hf := HNO.out hz
                  go_wp2
                  go_ret
                  exact ⟨by first | rfl | (rw [hf]; rfl), HBX.out.then_ HBU.out⟩
              · obtain rfl : j = uq.length := by omega
                have ht : R = true := by
                  have := HT.out
                  rw [List.take_length] at this
                  rw [HRM.out, this]
                clear HT hlt hj
                go_wp2
                go_ret
                exact ⟨by first | rfl | (rw [ht]; rfl), HBX.out.then_ HBU.out⟩
end Go.Proofs.YtkklmflclmgjeaaGreatDoor

/-
  The codec's statements: the chapter's rows are as they are said.
-/
set_option linter.unusedVariables false
set_option linter.unusedSimpArgs false
set_option linter.unusedVariables false
set_option linter.unusedSimpArgs false
namespace Go.Proofs.YtkklmflclmgjeaaGreatDoor
open Go.RowKit Go.Shelf Go.Lib
attribute [local go_sem] Oper.semAt_some

theorem alloc_new (w : World) (o : Obj) (n : Nat) (e : w.heap.size = n) : (w.alloc o).heap[n]? = some o := e ▸ World.alloc_heap_new w o
def kca : Col := ⟨⟨#[97]⟩, 1, 1, false⟩
def kcb : Col := ⟨⟨#[98]⟩, 4, 2, true⟩
theorem kcols_ab (w : World) (g : Nat) (h : w.heap[g]? = some (.cells #[.string ⟨#[97]⟩, .int .i64 1, .int .i64 1, .bool false, .string ⟨#[98]⟩, .int .i64 4, .int .i64 2, .bool true] 44 (0, 0))) : ColsAt w (.slice (some ⟨g, 0, none⟩) 2 2) [kca, kcb] := by
  refine ⟨_, 2, rfl, Nat.le_refl _, by unfold maxLen; omega, fun _ => ⟨g, 0, rfl, fun i x hx => ?_⟩⟩
  match i, hx with
  | 0, hx => simp at hx; subst hx; simp [World.cell?, h, kca]
  | 1, hx => simp at hx; subst hx; simp [World.cell?, h, kcb]
  | k + 2, hx => simp at hx
theorem kints_one (w : World) (g : Nat) (n : Int) (h : w.heap[g]? = some (.cells #[.int .i64 n] 3 (0, 0))) : IntsAt w (.slice (some ⟨g, 0, none⟩) 1 1) [n] := by
  refine ⟨_, 1, rfl, Nat.le_refl _, by unfold maxLen; omega, fun _ => ⟨g, 0, rfl, fun i x hx => ?_⟩⟩
  match i, hx with
  | 0, hx => simp at hx; subst hx; simp [World.cell?, h]
  | k + 1, hx => simp at hx
theorem klists_none (w : World) : ListsAt w (.slice none 0 0) [] := ⟨none, 0, rfl, Nat.le_refl _, by unfold maxLen; omega, fun h => by simp at h⟩
theorem kvals_two (w : World) (g : Nat) (x y : Val) (h : w.heap[g]? = some (.cells #[.int .i64 x.k, .int .i64 x.n, .int .u64 x.u, .string x.b, .int .i64 y.k, .int .i64 y.n, .int .u64 y.u, .string y.b] 48 (0, 0))) : ValsAt w (.slice (some ⟨g, 0, none⟩) 2 2) [x, y] := by
  refine ⟨_, 2, rfl, Nat.le_refl _, by unfold maxLen; omega, fun _ => ⟨g, 0, rfl, fun i z hz => ?_⟩⟩
  match i, hz with
  | 0, hz => simp at hz; subst hz; simp [World.cell?, h]
  | 1, hz => simp at hz; subst hz; simp [World.cell?, h]
  | k + 2, hz => simp at hz
theorem bs_block {w : World} {g : Nat} {s : List UInt8} {T : TypeId} (hm : s.length ≤ maxLen) (h : w.heap[g]? = some (.cells (s.map bv).toArray T (0, 0))) : BsAt w (.slice (some ⟨g, 0, none⟩) s.length s.length) s := by
  refine ⟨_, s.length, rfl, Nat.le_refl _, hm, by simp, fun _ => ⟨_, rfl, (Array.getElem?_eq_some_iff.1 h).1, fun j u hu => ?_⟩⟩
  rw [add_free]
  simp [World.cell?, h]
  simpa using hu
theorem kwf_of (k n : Int) (b : ByteArray) (h0 : -1000 ≤ n) (h1 : n ≤ 1000) : Val.Wf ⟨k, n, 0, b⟩ := ⟨by show _ ≤ n; omega, by show n ≤ _; omega, by show (0 : Int) ≤ 0; omega, by show (0 : Int) ≤ _; omega⟩
theorem kright : rightS [kca, kcb] [0] [] = true := by decide +kernel
theorem kenc1 : encGives [kca, kcb] [0] [] [⟨1, -1, 0, ⟨#[]⟩⟩, ⟨0, 0, 0, ⟨#[]⟩⟩] = ([1, 255, 0], 0) := by decide +kernel
theorem kenc2 : encGives [kca, kcb] [0] [] [⟨1, 1, 0, ⟨#[]⟩⟩, ⟨4, 0, 0, ⟨#[2, 3]⟩⟩] = ([1, 1, 1, 1, 2, 2, 3], 0) := by decide +kernel
theorem kdec1 : decR [kca, kcb] [0] [] [1, 255, 0] = ([⟨1, -1, 0, ⟨#[]⟩⟩, ⟨0, 0, 0, ⟨#[]⟩⟩], 0) := by decide +kernel
theorem kdec2 : decR [kca, kcb] [0] [] [1, 255] = ([], 140) := by decide +kernel
theorem kdec3 : decR [kca, kcb] [0] [] [1, 255, 2] = ([], 140) := by decide +kernel
theorem kwid : widR [kca, kcb] [0] [] = (3, 7, 0) := by decide +kernel
set_option maxRecDepth 100000 in
set_option maxHeartbeats 8000000 in
theorem kworks_any (w : World) (hg : ErrType w) : Calls Tryz.prog 36 #[] w fun e w' => e = .returned (.bool true) ∧ Bel w w' := by
  have HG := Lib.hid hg
  clear hg
  go_enter Tryz.func36, Tryz.ntmps36
  go_wp2_with fail
  obtain ⟨W1, hW1⟩ : ∃ W1, W1 = ((((((w.alloc (.cells #[.string ⟨#[97]⟩, .int .i64 1, .int .i64 1, .bool false, .string ⟨#[98]⟩, .int .i64 4, .int .i64 2, .bool true] 44)).alloc (.cells #[.int .i64 0] 3)).alloc (.cells #[.slice (some ⟨w.heap.size, 0, none⟩) 2 2, .slice (some ⟨w.heap.size + 1, 0, none⟩) 1 1, .slice none 0 0] 26)).alloc (.cells #[.int .i64 1, .int .i64 1, .int .u64 0, .string ⟨#[]⟩] 48)).alloc (.cells #[.int .i64 1, .int .i64 (-1), .int .u64 0, .string ⟨#[]⟩] 48)).alloc (.cells #[.int .i64 0, .int .i64 0, .int .u64 0, .string ⟨#[]⟩] 48)) := ⟨_, rfl⟩
  rw [← hW1]
  have hbw : Bel w W1 := by rw [hW1]; exact ((((((Bel.refl w).alloc _).alloc _).alloc _).alloc _).alloc _).alloc _
  have f0 : ColsAt W1 (.slice (some ⟨w.heap.size, 0, none⟩) 2 2) [kca, kcb] := kcols_ab _ _ (by rw [hW1]; exact ((((((Bel.refl _).alloc _).alloc _).alloc _).alloc _).alloc _).deferred (World.alloc_heap_new w _))
  have f1 : IntsAt W1 (.slice (some ⟨w.heap.size + 1, 0, none⟩) 1 1) [0] := kints_one _ _ _ (by
    have e : w.heap.size + 1 = (w.alloc (.cells #[.string ⟨#[97]⟩, .int .i64 1, .int .i64 1, .bool false, .string ⟨#[98]⟩, .int .i64 4, .int .i64 2, .bool true] 44)).heap.size := by simp
    rw [hW1, e]; exact (((((Bel.refl _).alloc _).alloc _).alloc _).alloc _).deferred (World.alloc_heap_new _ _))
  have HF : Hid (∀ V, Bel W1 V → (ColsAt V (.slice (some ⟨w.heap.size, 0, none⟩) 2 2) [kca, kcb] ∧ IntsAt V (.slice (some ⟨w.heap.size + 1, 0, none⟩) 1 1) [0] ∧ Bel w V) ∧ (V.cell? ⟨w.heap.size + 1 + 1, 0, none⟩ = some (.slice (some ⟨w.heap.size, 0, none⟩) 2 2) ∧ V.cell? ⟨w.heap.size + 1 + 1, 1, none⟩ = some (.slice (some ⟨w.heap.size + 1, 0, none⟩) 1 1) ∧ V.cell? ⟨w.heap.size + 1 + 1, 2, none⟩ = some (.slice none 0 0) ∧ V.cell? ⟨w.heap.size + 1 + 1 + 1, 0, none⟩ = some (.int .i64 1) ∧ V.cell? ⟨w.heap.size + 1 + 1 + 1, 1, none⟩ = some (.int .i64 1) ∧ V.cell? ⟨w.heap.size + 1 + 1 + 1, 2, none⟩ = some (.int .u64 0) ∧ V.cell? ⟨w.heap.size + 1 + 1 + 1, 3, none⟩ = some (.string ⟨#[]⟩) ∧ V.cell? ⟨w.heap.size + 1 + 1 + 1 + 1, 0, none⟩ = some (.int .i64 1) ∧ V.cell? ⟨w.heap.size + 1 + 1 + 1 + 1, 1, none⟩ = some (.int .i64 (-1)) ∧ V.cell? ⟨w.heap.size + 1 + 1 + 1 + 1, 2, none⟩ = some (.int .u64 0) ∧ V.cell? ⟨w.heap.size + 1 + 1 + 1 + 1, 3, none⟩ = some (.string ⟨#[]⟩) ∧ V.cell? ⟨w.heap.size + 1 + 1 + 1 + 1 + 1, 0, none⟩ = some (.int .i64 0) ∧ V.cell? ⟨w.heap.size + 1 + 1 + 1 + 1 + 1, 1, none⟩ = some (.int .i64 0) ∧ V.cell? ⟨w.heap.size + 1 + 1 + 1 + 1 + 1, 2, none⟩ = some (.int .u64 0) ∧ V.cell? ⟨w.heap.size + 1 + 1 + 1 + 1 + 1, 3, none⟩ = some (.string ⟨#[]⟩))) := fun V h =>
    ⟨⟨f0.bel h, f1.bel h, hbw.then_ h⟩, h.c (by rw [hW1]; go_simp), h.c (by rw [hW1]; go_simp), h.c (by rw [hW1]; go_simp), h.c (by rw [hW1]; go_simp), h.c (by rw [hW1]; go_simp), h.c (by rw [hW1]; go_simp), h.c (by rw [hW1]; go_simp), h.c (by rw [hW1]; go_simp), h.c (by rw [hW1]; go_simp), h.c (by rw [hW1]; go_simp), h.c (by rw [hW1]; go_simp), h.c (by rw [hW1]; go_simp), h.c (by rw [hW1]; go_simp), h.c (by rw [hW1]; go_simp), h.c (by rw [hW1]; go_simp)⟩
  have HS1 : Hid (W1.heap.size = w.heap.size + 1 + 1 + 1 + 1 + 1 + 1) := by show _ = _; rw [hW1]; simp
  clear hW1 f0 f1 hbw
  have HE1 : Hid (∀ V g, Bel W1 V → V.heap[g]? = some (.cells #[.int .i64 1, .int .i64 (-1), .int .u64 0, .string ⟨#[]⟩, .int .i64 0, .int .i64 0, .int .u64 0, .string ⟨#[]⟩] 48 (0, 0)) → Calls Tryz.prog 37 #[.agg #[.slice (some ⟨w.heap.size, 0, none⟩) 2 2, .slice (some ⟨w.heap.size + 1, 0, none⟩) 1 1, .slice none 0 0], .slice (some ⟨g, 0, none⟩) 2 2] V fun e w' => ∃ v, e = .returned (.tuple #[v, .int .i64 0]) ∧ BsAt w' v [1, 255, 0] ∧ Bel V w') := fun V g h hg => by
    have q := (HF.out V h).1
    have := cdEncode_any _ _ _ _ [kca, kcb] [0] [] [⟨1, -1, 0, ⟨#[]⟩⟩, ⟨0, 0, 0, ⟨#[]⟩⟩] V (HG.out.bel q.2.2) q.1 q.2.1 (klists_none V) (kvals_two V g ⟨1, -1, 0, ⟨#[]⟩⟩ ⟨0, 0, 0, ⟨#[]⟩⟩ hg) (fun x hx => by simp at hx; rcases hx with rfl | rfl <;> exact kwf_of _ _ _ (by decide) (by decide)) (by simp)
    rw [kenc1] at this
    exact this
  have HE2 : Hid (∀ V g, Bel W1 V → V.heap[g]? = some (.cells #[.int .i64 1, .int .i64 1, .int .u64 0, .string ⟨#[]⟩, .int .i64 4, .int .i64 0, .int .u64 0, .string ⟨#[2, 3]⟩] 48 (0, 0)) → Calls Tryz.prog 37 #[.agg #[.slice (some ⟨w.heap.size, 0, none⟩) 2 2, .slice (some ⟨w.heap.size + 1, 0, none⟩) 1 1, .slice none 0 0], .slice (some ⟨g, 0, none⟩) 2 2] V fun e w' => ∃ v, e = .returned (.tuple #[v, .int .i64 0]) ∧ BsAt w' v [1, 1, 1, 1, 2, 2, 3] ∧ Bel V w') := fun V g h hg => by
    have q := (HF.out V h).1
    have := cdEncode_any _ _ _ _ [kca, kcb] [0] [] [⟨1, 1, 0, ⟨#[]⟩⟩, ⟨4, 0, 0, ⟨#[2, 3]⟩⟩] V (HG.out.bel q.2.2) q.1 q.2.1 (klists_none V) (kvals_two V g ⟨1, 1, 0, ⟨#[]⟩⟩ ⟨4, 0, 0, ⟨#[2, 3]⟩⟩ hg) (fun x hx => by simp at hx; rcases hx with rfl | rfl <;> exact kwf_of _ _ _ (by decide) (by decide)) (by simp)
    rw [kenc2] at this
    exact this
  have HD1 : Hid (∀ V g, Bel W1 V → V.heap[g]? = some (.cells #[.int .u8 1, .int .u8 255, .int .u8 0] 5 (0, 0)) → Calls Tryz.prog 42 #[.agg #[.slice (some ⟨w.heap.size, 0, none⟩) 2 2, .slice (some ⟨w.heap.size + 1, 0, none⟩) 1 1, .slice none 0 0], .slice (some ⟨g, 0, none⟩) 3 3] V fun e w' => ∃ v, e = .returned (.tuple #[v, .int .i64 0]) ∧ ValsAt w' v [⟨1, -1, 0, ⟨#[]⟩⟩, ⟨0, 0, 0, ⟨#[]⟩⟩] ∧ Bel V w') := fun V g h hg => by
    have q := (HF.out V h).1
    have hbs : BsAt V (.slice (some ⟨g, 0, none⟩) 3 3) [1, 255, 0] := bs_block (s := [1, 255, 0]) (by unfold maxLen; simp) hg
    have := cdDecode_any _ _ _ _ [kca, kcb] [0] [] [1, 255, 0] (by simp) V q.1 q.2.1 (klists_none V) hbs
    rw [kdec1] at this
    exact this
  have HD2 : Hid (∀ V g, Bel W1 V → V.heap[g]? = some (.cells #[.int .u8 1, .int .u8 255] 5 (0, 0)) → Calls Tryz.prog 42 #[.agg #[.slice (some ⟨w.heap.size, 0, none⟩) 2 2, .slice (some ⟨w.heap.size + 1, 0, none⟩) 1 1, .slice none 0 0], .slice (some ⟨g, 0, none⟩) 2 2] V fun e w' => ∃ v, e = .returned (.tuple #[v, .int .i64 140]) ∧ ValsAt w' v [] ∧ Bel V w') := fun V g h hg => by
    have q := (HF.out V h).1
    have hbs : BsAt V (.slice (some ⟨g, 0, none⟩) 2 2) [1, 255] := bs_block (s := [1, 255]) (by unfold maxLen; simp) hg
    have := cdDecode_any _ _ _ _ [kca, kcb] [0] [] [1, 255] (by simp) V q.1 q.2.1 (klists_none V) hbs
    rw [kdec2] at this
    exact this
  have HD3 : Hid (∀ V g, Bel W1 V → V.heap[g]? = some (.cells #[.int .u8 1, .int .u8 255, .int .u8 2] 5 (0, 0)) → Calls Tryz.prog 42 #[.agg #[.slice (some ⟨w.heap.size, 0, none⟩) 2 2, .slice (some ⟨w.heap.size + 1, 0, none⟩) 1 1, .slice none 0 0], .slice (some ⟨g, 0, none⟩) 3 3] V fun e w' => ∃ v, e = .returned (.tuple #[v, .int .i64 140]) ∧ ValsAt w' v [] ∧ Bel V w') := fun V g h hg => by
    have q := (HF.out V h).1
    have hbs : BsAt V (.slice (some ⟨g, 0, none⟩) 3 3) [1, 255, 2] := bs_block (s := [1, 255, 2]) (by unfold maxLen; simp) hg
    have := cdDecode_any _ _ _ _ [kca, kcb] [0] [] [1, 255, 2] (by simp) V q.1 q.2.1 (klists_none V) hbs
    rw [kdec3] at this
    exact this
  have HWI : Hid (∀ V, Bel W1 V → Calls Tryz.prog 39 #[.agg #[.slice (some ⟨w.heap.size, 0, none⟩) 2 2, .slice (some ⟨w.heap.size + 1, 0, none⟩) 1 1, .slice none 0 0]] V fun e w' => e = .returned (.tuple #[.int .i64 3, .int .i64 7, .int .i64 0]) ∧ Bel V w') := fun V h => by
    have q := (HF.out V h).1
    have := cdWidth_any _ _ _ [kca, kcb] [0] [] V q.1 q.2.1 (klists_none V)
    rw [kwid] at this
    exact this
  refine (HE1.out _ _ ((Bel.refl W1).alloc _) (alloc_new _ _ _ HS1.out)).mono ?_
  rintro e w2 ⟨v2, rfl, hv2, hb2⟩
  have HB2 := Lib.hid (((Bel.refl W1).alloc _).then_ hb2)
  obtain ⟨Aa, ca, rfl, -, -, ra⟩ := hv2
  have HA := Lib.hid ra
  clear hb2 ra HE1
  obtain ⟨-, s0, s1, s2, o0, o1, o2, o3, m0, m1, m2, m3, n0, n1, n2, n3⟩ := HF.out w2 HB2.out
  go_wp2_with fail
  refine (HE2.out _ _ (HB2.out.alloc _) (World.alloc_heap_new _ _)).mono ?_
  rintro e w3 ⟨v3, rfl, hv3, hb3⟩
  have HB23 := Lib.hid (((Bel.refl w2).alloc _).then_ hb3)
  have HB3 := Lib.hid (HB2.out.then_ HB23.out)
  obtain ⟨Ab, cb, rfl, -, -, rb⟩ := hv3
  have HBB := Lib.hid rb
  clear hb3 rb HE2
  clear s0 s1 s2 o0 o1 o2 o3 m0 m1 m2 m3 n0 n1 n2 n3
  obtain ⟨-, s0, s1, s2, o0, o1, o2, o3, m0, m1, m2, m3, n0, n1, n2, n3⟩ := HF.out w3 HB3.out
  go_wp2_with fail
  refine (HD1.out _ _ (HB3.out.alloc _) (World.alloc_heap_new _ _)).mono ?_
  rintro e w4 ⟨v4, rfl, hv4, hb4⟩
  have HB34 := Lib.hid (((Bel.refl w3).alloc _).then_ hb4)
  have HB4 := Lib.hid (HB3.out.then_ HB34.out)
  obtain ⟨Al, cl, rfl, -⟩ := id hv4
  have HV := Lib.hid hv4
  clear hb4 hv4 HD1
  clear s0 s1 s2 o0 o1 o2 o3 m0 m1 m2 m3 n0 n1 n2 n3
  obtain ⟨-, s0, s1, s2, o0, o1, o2, o3, m0, m1, m2, m3, n0, n1, n2, n3⟩ := HF.out w4 HB4.out
  go_wp2_with fail
  refine (HD2.out _ _ (HB4.out.alloc _) (World.alloc_heap_new _ _)).mono ?_
  rintro e w5 ⟨v5, rfl, hv5, hb5⟩
  have HB45 := Lib.hid (((Bel.refl w4).alloc _).then_ hb5)
  have HB5 := Lib.hid (HB4.out.then_ HB45.out)
  obtain ⟨Ax, cx, rfl, -⟩ := hv5
  clear hb5 HD2
  clear s0 s1 s2 o0 o1 o2 o3 m0 m1 m2 m3 n0 n1 n2 n3
  obtain ⟨-, s0, s1, s2, o0, o1, o2, o3, m0, m1, m2, m3, n0, n1, n2, n3⟩ := HF.out w5 HB5.out
  go_wp2_with fail
  refine (HD3.out _ _ (HB5.out.alloc _) (World.alloc_heap_new _ _)).mono ?_
  rintro e w6 ⟨v6, rfl, hv6, hb6⟩
  have HB56 := Lib.hid (((Bel.refl w5).alloc _).then_ hb6)
  have HB6 := Lib.hid (HB5.out.then_ HB56.out)
  obtain ⟨Ay, cy, rfl, -⟩ := hv6
  clear hb6 HD3
  clear s0 s1 s2 o0 o1 o2 o3 m0 m1 m2 m3 n0 n1 n2 n3
  obtain ⟨-, s0, s1, s2, o0, o1, o2, o3, m0, m1, m2, m3, n0, n1, n2, n3⟩ := HF.out w6 HB6.out
  go_wp2_with fail
  refine (HWI.out _ HB6.out).mono ?_
  rintro e w7 ⟨rfl, hb7⟩
  have HB7 := Lib.hid (HB6.out.then_ hb7)
  have ra7 := (((((HA.out.belH HB23.out).belH HB34.out).belH HB45.out).belH HB56.out).belH hb7)
  have rb7 := ((((HBB.out.belH HB34.out).belH HB45.out).belH HB56.out).belH hb7)
  have hca : (convert 63 9 (.slice Aa 3 ca)).run Tryz.prog w7 = .ok (.string ⟨#[1, 255, 0]⟩) w7 := conv_reads (s := [1, 255, 0]) ca ra7
  have hcb : (convert 63 9 (.slice Ab 7 cb)).run Tryz.prog w7 = .ok (.string ⟨#[1, 1, 1, 1, 2, 2, 3]⟩) w7 := conv_reads (s := [1, 1, 1, 1, 2, 2, 3]) cb rb7
  have HSM : Hid (∀ V g, Bel w7 V → V.heap[g]? = some (.cells #[.int .i64 1, .int .i64 (-1), .int .u64 0, .string ⟨#[]⟩, .int .i64 0, .int .i64 0, .int .u64 0, .string ⟨#[]⟩] 48 (0, 0)) → Calls Tryz.prog 22 #[.slice Al 2 cl, .slice (some ⟨g, 0, none⟩) 2 2] V fun e w' => e = .returned (.bool true) ∧ Bel V w') := fun V g h hg => by
    have := vrSame_any _ _ [⟨1, -1, 0, ⟨#[]⟩⟩, ⟨0, 0, 0, ⟨#[]⟩⟩] [⟨1, -1, 0, ⟨#[]⟩⟩, ⟨0, 0, 0, ⟨#[]⟩⟩] V (((((HV.out.bel HB45.out).bel HB56.out).bel hb7).bel h)) (kvals_two V g ⟨1, -1, 0, ⟨#[]⟩⟩ ⟨0, 0, 0, ⟨#[]⟩⟩ hg)
    rw [decide_eq_true rfl] at this
    exact this
  clear ra7 rb7 hb7 HWI
  clear s0 s1 s2 o0 o1 o2 o3 m0 m1 m2 m3 n0 n1 n2 n3
  obtain ⟨-, s0, s1, s2, o0, o1, o2, o3, m0, m1, m2, m3, n0, n1, n2, n3⟩ := HF.out w7 HB7.out
  have HFIN : Hid (∀ V, Bel w7 V → Bel w V) := fun V h => (HF.out V (HB7.out.then_ h)).1.2.2
  clear HF HB2 HB3 HB4 HB5 HB6 HB7 HB23 HB34 HB45 HB56 HA HBB HV
  go_wp2_with (first | (go_at_call 41; refine (knum_any _ _).mono ?_; rintro e w' ⟨rfl, rfl⟩) | (go_at_call 22; refine (HSM.out _ _ ((Bel.refl w7).alloc _) (World.alloc_heap_new _ _)).mono ?_; rintro e wR ⟨rfl, hbR⟩))
  go_ret
  exact ⟨rfl, HFIN.out _ (((Bel.refl w7).alloc _).then_ hbR)⟩
end Go.Proofs.YtkklmflclmgjeaaGreatDoor

/-
  From a law's walk to its statement: where the call returns true and nothing that was there has turned, the row's post holds.
-/
set_option linter.unusedVariables false
set_option linter.unusedSimpArgs false
set_option linter.unusedVariables false
set_option linter.unusedSimpArgs false
namespace Go.Proofs.YtkklmflclmgjeaaGreatDoor
open Go.ChangeShapes Go.WideShapes Go.ChangeAt Go.RowKit

theorem own : ownKnob Tryz.prog.godebug = none := by kernel_rfl
theorem laidOut : laidOutB Tryz.prog = true := by kernel_rfl

theorem trodAll_below {H : Type} {enc : TypeId × Value → H} {P : Program} (hl : laidOutB P = true) {W W' : World} (hb : Bel W W') :
    ∀ (ts : List TypeId) (vs : List Value) (ds : List (DataW H)) (ps : List MemPlace), (∀ t ∈ ts, P.readableRec t = true ∧ t < P.types.size) → (∀ x ∈ ps, x.block < W.heap.size) →
      DataW.TrodAll enc P W 0 (fun _ => true) true ts vs ds ps → DataW.TrodAll enc P W' 0 (fun b => decide (b < W.heap.size)) true ts vs ds ps := by
  intro ts
  induction ts with
  | nil =>
    intro vs ds ps _ _ h
    cases vs <;> cases ds <;> simp_all [DataW.TrodAll]
  | cons t ts ih =>
    intro vs ds ps ht hp h
    cases vs with
    | nil => simp [DataW.TrodAll] at h
    | cons v vs =>
      cases ds with
      | nil => simp [DataW.TrodAll] at h
      | cons d ds =>
        obtain ⟨p, q, h1, h2, rfl⟩ := h
        have h0 := ht t (List.mem_cons_self ..)
        exact ⟨p, q, Below.trod hl h0.1 h0.2 h1 hb (fun x hx => hp x (List.mem_append_left _ hx)), ih vs ds q (fun t' h' => ht t' (List.mem_cons_of_mem _ h')) (fun x hx => hp x (List.mem_append_right _ hx)) h2, rfl⟩

theorem law_post {H : Type} {enc : TypeId × Value → H} {P : Program} {f : Func} {s : ChangeSpec} {apart fresh handsOn : Bool} {W W' : World} {args : Array Value} {ds gs : List (DataW H)} {before : List MemPlace} {T : TypeId}
    (hl : laidOutB P = true) (hts : f.params.toList.all (fun t => P.readableRec t && decide (t < P.types.size)) = true) (hT : f.resultTypes = #[T]) (hu : P.underlying T = some .bool) (hv : s.vars = [])
    (hW : DataW.Whole enc P f.params.toList s.vars apart W args.toList ds gs before) (hs : s.fn H (ds ++ gs) = { results := [.lit (.bool true)], args := ds }) (hb : Bel W W') :
    s.post enc P f apart fresh handsOn false W args (.bool true) W' := by
  have hlt : ∀ p ∈ before, p.block < W.heap.size := fun p hp => hW.lt p hp
  have hW' := hW
  obtain ⟨p, q, hA, hV, rfl, _, _⟩ := hW'
  rw [hv] at hV
  obtain ⟨rfl, rfl⟩ := trodVars_none hV
  refine ⟨ds, [], p ++ [], [], p, [], hW, ?_, ?_, ?_, Below.frame hb _, fun h => by cases h⟩
  · rw [hs, hT]
    exact trodAll_cons_mk (shut_bool hu _) trodAll_mk0
  · rw [hs]
    refine trodAll_below hl hb _ _ _ _ (fun t ht => ?_) (fun x hx => hlt x (List.mem_append_left _ hx)) hA
    have := List.all_eq_true.1 hts t ht
    simpa using this
  · rw [hs, hv]
    rfl

section
variable {H : Type} {enc : TypeId × Value → H} {P : Program} {w : World} {base : Nat} {spare : Nat → Bool} {held : Bool}
/-- A struct of one-cell fields: each cell reads as its field. -/
theorem struct_cells {t : TypeId} {fs : Array Field} {fuel : Nat} {cs : List Value} {x : DataW H × List MemPlace} (hs : P.underlying t = some (.struct fs)) (hone : Go.Deep.oneCellFields P fs = true) (hC : P.cellsOf t = fs.size)
    (h : DataW.trod enc P w base spare held fuel t cs = some x) :
    cs.length = fs.size ∧ ∃ n, ∀ (j : Nat) (f : Field), fs[j]? = some f → ∃ v y, cs[j]? = some v ∧ DataW.trod enc P w base spare held n f.type [v] = some y := by
  obtain ⟨xs, n, -, -, hlen, hxl, hg⟩ := DataW.trod_struct hs h
  rw [hC] at hlen
  refine ⟨hlen, n, fun j f hj => ?_⟩
  have hjl : j < fs.size := (Array.getElem?_eq_some_iff.1 hj).1
  obtain ⟨ho, hk⟩ := Go.Deep.hone_of hone j f hj
  have hcl : j < cs.length := by omega
  have hxl' : j < xs.length := by omega
  have h1 := hg j f hj
  rw [ho, hk, List.drop_eq_getElem_cons hcl] at h1
  exact ⟨cs[j], xs[j], List.getElem?_eq_getElem hcl, h1.trans (List.getElem?_eq_getElem hxl')⟩

/-- A slice that came in: its elements' cells, and how they read. -/
theorem slice_read {t e : TypeId} {fuel sz : Nat} {cs : List Value} {x : DataW H × List MemPlace} (ht : P.underlying t = some (.slice e)) (hsz : P.cellsOf e = sz) (h0 : 0 < sz) (h : DataW.trod enc P w base spare held fuel t cs = some x) :
    ∃ (A : Option Addr) (n cap : Nat), cs = [.slice A n cap] ∧ n ≤ cap ∧ cap ≤ maxLen ∧ (A = none → n = 0 ∧ cap = 0) ∧
      (0 < n → ∃ b off, A = some ⟨b, off, none⟩ ∧ b < w.heap.size ∧ ∀ i, i < n → ∃ cs' fuel' y, cs'.length = sz ∧ (∀ j v, cs'[j]? = some v → w.cell? ⟨b, off + i * sz + j, none⟩ = some v) ∧ DataW.trod enc P w base spare held fuel' e cs' = some y) := by
  rcases Go.Deep.open_slice ht h with ⟨rfl, -⟩ | ⟨a, len, cap, m, n, D, Pl, rfl, -, hl, hm, hmm, -, hi⟩
  · exact ⟨none, 0, 0, rfl, Nat.le_refl _, Nat.zero_le _, fun _ => ⟨rfl, rfl⟩, fun h => absurd h (by omega)⟩
  · refine ⟨some a, len, cap, rfl, hl, hm, (fun h => by cases h), fun hn => ?_⟩
    have hlm : len ≤ m := by subst hmm; split <;> omega
    rw [hsz] at hi
    obtain ⟨b, off, spot⟩ := a
    have hspot : spot = none ∧ b < w.heap.size := by
      obtain ⟨cs', hc, -⟩ := hi 0 (by omega)
      obtain ⟨-, hcl, hat⟩ := World.cells?_some hc
      have h1 := hat 0 h0
      have hcl0 : cs'[0]? = some (cs'[0]'(by omega)) := List.getElem?_eq_getElem (by omega)
      rw [hcl0] at h1
      have h2 : w.cell? ⟨b, off, spot⟩ = some (cs'[0]'(by omega)) := by simpa [Addr.add] using h1
      exact ⟨World.cell?_spot h2, block_lt_of_cell h2⟩
    obtain ⟨rfl, hb⟩ := hspot
    refine ⟨b, off, rfl, hb, fun i him => ?_⟩
    obtain ⟨cs', hc, htr⟩ := hi i (by omega)
    obtain ⟨-, hcl, hat⟩ := World.cells?_some hc
    refine ⟨cs', n, _, hcl, fun j v hv => ?_, htr⟩
    have hj : j < sz := by have := (List.getElem?_eq_some_iff.1 hv).1; omega
    have h1 := hat j hj
    rw [hv] at h1
    rw [← h1]
    congr 1
    unfold Addr.add
    by_cases hz : i * sz = 0 <;> by_cases hz' : j = 0 <;> simp [hz, hz', Nat.add_assoc]
end
end Go.Proofs.YtkklmflclmgjeaaGreatDoor

/-
  A struct of one-cell fields that came in by value: its cells, each with its own reading.
-/
set_option linter.unusedVariables false
set_option linter.unusedSimpArgs false
set_option linter.unusedVariables false
set_option linter.unusedSimpArgs false
namespace Go.Proofs.YtkklmflclmgjeaaGreatDoor
open Go.ChangeShapes Go.WideShapes Go.RowKit
section
variable {H : Type} {enc : TypeId × Value → H} {P : Program} {w : World} {base : Nat} {spare : Nat → Bool} {held : Bool}
theorem open_cells {r : Reach} {b0 : Nat} {t : TypeId} {fs : Array Field} {v : Value} {d : DataW H} {p : List MemPlace} (hs : P.underlying t = some (.struct fs)) (hone : Go.Deep.oneCellFields P fs = true) (hC : P.cellsOf t = fs.size)
    (hv : Value.okWide P w r b0 t v) (h : DataW.Trod enc P w base spare held t v d p) :
    ∃ cs : List Value, v = .agg cs.toArray ∧ cs.length = fs.size ∧ ∃ n, ∀ (j : Nat) (f : Field) (u : Value), fs[j]? = some f → cs[j]? = some u → ∃ y, DataW.trod enc P w base spare held n f.type [u] = some y := by
  obtain ⟨cs, rfl, hsz⟩ := okWide_struct hs hv
  obtain ⟨fuel, hf⟩ := h
  obtain ⟨hl, n, hg⟩ := struct_cells hs hone hC hf
  have he : (Value.agg cs).cells.toList = cs.toList := rfl
  have hl' : cs.toList.length = fs.size := hl
  refine ⟨cs.toList, by simp, hl', n, fun j f u hj hu => ?_⟩
  obtain ⟨u', y, hu', hy⟩ := hg j f hj
  rw [he, hu] at hu'
  cases hu'
  exact ⟨y, hy⟩
end
theorem list5 {α : Type} {l : List α} (h : l.length = 5) : ∃ a b c d e, l = [a, b, c, d, e] := by
  match l, h with
  | [a, b, c, d, e], _ => exact ⟨a, b, c, d, e, rfl⟩
theorem list4 {α : Type} {l : List α} (h : l.length = 4) : ∃ a b c d, l = [a, b, c, d] := by
  match l, h with
  | [a, b, c, d], _ => exact ⟨a, b, c, d, rfl⟩
theorem list3 {α : Type} {l : List α} (h : l.length = 3) : ∃ a b c, l = [a, b, c] := by
  match l, h with
  | [a, b, c], _ => exact ⟨a, b, c, rfl⟩
end Go.Proofs.YtkklmflclmgjeaaGreatDoor

/-
  Arguments that are read: columns, values, schemas.
-/
set_option linter.unusedVariables false
set_option linter.unusedSimpArgs false
set_option linter.unusedVariables false
set_option linter.unusedSimpArgs false
namespace Go.Proofs.YtkklmflclmgjeaaGreatDoor
open Go.ChangeShapes Go.WideShapes Go.RowKit
section
variable {H : Type} {enc : TypeId × Value → H} {w : World} {base : Nat} {spare : Nat → Bool} {held : Bool}
theorem i64_range {n : Int} (h : (Lit.int .i64 n).wf = true) : -9223372036854775808 ≤ n ∧ n ≤ 9223372036854775807 := by
  simp [Lit.wf, IntKind.min, IntKind.max, IntKind.bits, IntKind.signed] at h
  omega
theorem u64_range {n : Int} (h : (Lit.int .u64 n).wf = true) : 0 ≤ n ∧ n ≤ 18446744073709551615 := by
  simp [Lit.wf, IntKind.min, IntKind.max, IntKind.bits, IntKind.signed] at h
  omega
theorem val_cells {cs : List Value} {fuel : Nat} {x : DataW H × List MemPlace} (h : DataW.trod enc Tryz.prog w base spare held fuel 48 cs = some x) : ∃ x : Val, cs = vrow x ∧ x.Wf ∧ x.b.size ≤ maxLen := by
  obtain ⟨hl, m, hg⟩ := struct_cells Tryz.underlying48 (by kernel_rfl) (by kernel_rfl) h
  obtain ⟨u0, u1, u2, u3, rfl⟩ := list4 hl
  obtain ⟨v0, y0, k0, e0⟩ := hg 0 _ rfl
  obtain ⟨v1, y1, k1, e1⟩ := hg 1 _ rfl
  obtain ⟨v2, y2, k2, e2⟩ := hg 2 _ rfl
  obtain ⟨v3, y3, k3, e3⟩ := hg 3 _ rfl
  cases k0
  cases k1
  cases k2
  cases k3
  obtain ⟨a, q0, -, w0⟩ := DataW.trod_int Tryz.underlying45 e0
  obtain ⟨b, q1, -, w1⟩ := DataW.trod_int Tryz.underlying2 e1
  obtain ⟨c, q2, -, w2⟩ := DataW.trod_int Tryz.underlying46 e2
  obtain ⟨d, q3, -, w3⟩ := DataW.trod_string Tryz.underlying9 e3
  simp only [List.cons.injEq, and_true] at q0 q1 q2 q3
  subst q0 q1 q2 q3
  exact ⟨⟨a, b, c, d⟩, rfl, ⟨(i64_range w1).1, (i64_range w1).2, (u64_range w2).1, (u64_range w2).2⟩, w3⟩
theorem col_cells {cs : List Value} {fuel : Nat} {x : DataW H × List MemPlace} (h : DataW.trod enc Tryz.prog w base spare held fuel 44 cs = some x) : ∃ x : Col, cs = [.string x.name, .int .i64 x.t, .int .i64 x.z, .bool x.null] ∧ x.name.size ≤ maxLen := by
  obtain ⟨hl, m, hg⟩ := struct_cells Tryz.underlying44 (by kernel_rfl) (by kernel_rfl) h
  obtain ⟨u0, u1, u2, u3, rfl⟩ := list4 hl
  obtain ⟨v0, y0, k0, e0⟩ := hg 0 _ rfl
  obtain ⟨v1, y1, k1, e1⟩ := hg 1 _ rfl
  obtain ⟨v2, y2, k2, e2⟩ := hg 2 _ rfl
  obtain ⟨v3, y3, k3, e3⟩ := hg 3 _ rfl
  cases k0
  cases k1
  cases k2
  cases k3
  obtain ⟨a, q0, -, w0⟩ := DataW.trod_string Tryz.underlying9 e0
  obtain ⟨b, q1, -, w1⟩ := DataW.trod_int Tryz.underlying42 e1
  obtain ⟨c, q2, -, w2⟩ := DataW.trod_int Tryz.underlying3 e2
  obtain ⟨d, q3, -⟩ := DataW.trod_bool Tryz.underlying4 e3
  simp only [List.cons.injEq, and_true] at q0 q1 q2 q3
  subst q0 q1 q2 q3
  exact ⟨⟨a, b, c, d⟩, rfl, w0⟩
set_option maxRecDepth 100000 in
theorem val_arg {r : Reach} {b0 : Nat} {v : Value} {d : DataW H} {p : List MemPlace} (hv : Value.okWide Tryz.prog w r b0 48 v) (h : DataW.Trod enc Tryz.prog w base spare held 48 v d p) : ∃ x : Val, v = x.v ∧ x.Wf ∧ x.b.size ≤ maxLen := by
  have hs := okWide_struct Tryz.underlying48 hv
  generalize Tryz.prog.cellsOf 48 = sz at hs
  obtain ⟨cs, rfl, -⟩ := hs
  obtain ⟨fuel, hf⟩ := h
  obtain ⟨x, he, hw, hb⟩ := val_cells hf
  refine ⟨x, ?_, hw, hb⟩
  have he' : cs.toList = vrow x := he
  rw [show cs = (vrow x).toArray by rw [← he']]
  rfl
set_option maxRecDepth 100000 in
theorem col_arg {r : Reach} {b0 : Nat} {v : Value} {d : DataW H} {p : List MemPlace} (hv : Value.okWide Tryz.prog w r b0 44 v) (h : DataW.Trod enc Tryz.prog w base spare held 44 v d p) : ∃ x : Col, v = x.v ∧ x.name.size ≤ maxLen := by
  have hs := okWide_struct Tryz.underlying44 hv
  generalize Tryz.prog.cellsOf 44 = sz at hs
  obtain ⟨cs, rfl, -⟩ := hs
  obtain ⟨fuel, hf⟩ := h
  obtain ⟨x, he, hb⟩ := col_cells hf
  refine ⟨x, ?_, hb⟩
  have he' : cs.toList = [.string x.name, .int .i64 x.t, .int .i64 x.z, .bool x.null] := he
  rw [show cs = ([.string x.name, .int .i64 x.t, .int .i64 x.z, .bool x.null] : List Value).toArray by rw [← he']]
  rfl
end
end Go.Proofs.YtkklmflclmgjeaaGreatDoor
