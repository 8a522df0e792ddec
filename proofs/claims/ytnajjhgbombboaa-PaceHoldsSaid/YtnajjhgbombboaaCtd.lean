/-
  Package control: what rows say: the map of parts; each part's bytes.
-/
import Derived.Test.YtnajjhgbombboaaCtc
import Derived.Test.YtnajjhgbombboaaMps
import Derived.Laws.EntriesVeiled
set_option linter.unusedVariables false
set_option linter.unusedSimpArgs false
set_option linter.unusedVariables false
set_option linter.unusedSimpArgs false
namespace Go.Proofs.Ytnajjhgbombboaa
open Go.RowKit

def kBeat : ByteArray := ⟨#[98, 101, 97, 116]⟩
def kCursor : ByteArray := ⟨#[99, 117, 114, 115, 111, 114]⟩
def kFull : ByteArray := ⟨#[102, 117, 108, 108]⟩
def kPhase : ByteArray := ⟨#[112, 104, 97, 115, 101]⟩
def kPos : ByteArray := ⟨#[112, 111, 115]⟩
def ptV (a b : Nat) (m : Bool) : Value := .agg #[.func (.func a) #[] #[], .func (.func b) #[] #[], .bool m]
def ptE (k : ByteArray) (a b : Nat) (m : Bool) (j : Nat) : MapEntry := { key := .string k, val := ptV a b m, born := j }
def ptMap : Array MapEntry := #[ptE kBeat 29 31 true 0, ptE kCursor 33 34 true 1, ptE kFull 35 36 false 2, ptE kPhase 38 39 true 3, ptE kPos 40 41 true 4]
theorem ctParts_at (w : World) : Calls Try.prog 18 #[] w fun e w' => e = .returned (.map (some w.heap.size)) ∧ w.alloc (.map ptMap 5) = w' := by
  have hmm := @run_makeMap Try.prog
  have u1 := run_mapUpdate_freshS (P := Try.prog) (T := 69) (K := 9) (E := 78) Try.underlying69 Try.underlying9 (es := #[]) (s := kBeat) (by kernel_rfl) 0 (ptV 29 31 true) w
  have u2 := run_mapUpdate_freshS (P := Try.prog) (T := 69) (K := 9) (E := 78) Try.underlying69 Try.underlying9 (es := #[ptE kBeat 29 31 true 0]) (s := kCursor) (by kernel_rfl) 1 (ptV 33 34 true) w
  have u3 := run_mapUpdate_freshS (P := Try.prog) (T := 69) (K := 9) (E := 78) Try.underlying69 Try.underlying9 (es := #[ptE kBeat 29 31 true 0, ptE kCursor 33 34 true 1]) (s := kFull) (by kernel_rfl) 2 (ptV 35 36 false) w
  have u4 := run_mapUpdate_freshS (P := Try.prog) (T := 69) (K := 9) (E := 78) Try.underlying69 Try.underlying9 (es := #[ptE kBeat 29 31 true 0, ptE kCursor 33 34 true 1, ptE kFull 35 36 false 2]) (s := kPhase) (by kernel_rfl) 3 (ptV 38 39 true) w
  have u5 := run_mapUpdate_freshS (P := Try.prog) (T := 69) (K := 9) (E := 78) Try.underlying69 Try.underlying9 (es := #[ptE kBeat 29 31 true 0, ptE kCursor 33 34 true 1, ptE kFull 35 36 false 2, ptE kPhase 38 39 true 3]) (s := kPos) (by kernel_rfl) 4 (ptV 40 41 true) w
  simp only [List.push_toArray, List.nil_append, List.cons_append, Nat.reduceAdd] at u1 u2 u3 u4 u5
  simp only [ptE, ptV, kBeat, kCursor, kFull, kPhase, kPos] at u1 u2 u3 u4 u5
  go_enter Try.func18, Try.ntmps18
  go_wp2
  go_ret
  exact ⟨rfl, rfl⟩
theorem ctLookBeat {b : Nat} {V : World} (hb : V.heap[b]? = some (.map ptMap 5)) : (Instr.lookup 69 (.map (some b)) (.string kBeat) false).run Try.prog V = .ok (ptV 29 31 true) V :=
  run_lookup_strN Try.underlying69 Try.underlying9 (i := 0) (by kernel_rfl) hb
theorem ctLookCursor {b : Nat} {V : World} (hb : V.heap[b]? = some (.map ptMap 5)) : (Instr.lookup 69 (.map (some b)) (.string kCursor) false).run Try.prog V = .ok (ptV 33 34 true) V :=
  run_lookup_strN Try.underlying69 Try.underlying9 (i := 1) (by kernel_rfl) hb
theorem ctLookFull {b : Nat} {V : World} (hb : V.heap[b]? = some (.map ptMap 5)) : (Instr.lookup 69 (.map (some b)) (.string kFull) false).run Try.prog V = .ok (ptV 35 36 false) V :=
  run_lookup_strN Try.underlying69 Try.underlying9 (i := 2) (by kernel_rfl) hb
theorem ctLookPhase {b : Nat} {V : World} (hb : V.heap[b]? = some (.map ptMap 5)) : (Instr.lookup 69 (.map (some b)) (.string kPhase) false).run Try.prog V = .ok (ptV 38 39 true) V :=
  run_lookup_strN Try.underlying69 Try.underlying9 (i := 3) (by kernel_rfl) hb
theorem ctLookPos {b : Nat} {V : World} (hb : V.heap[b]? = some (.map ptMap 5)) : (Instr.lookup 69 (.map (some b)) (.string kPos) false).run Try.prog V = .ok (ptV 40 41 true) V :=
  run_lookup_strN Try.underlying69 Try.underlying9 (i := 4) (by kernel_rfl) hb

theorem reads_row {w : World} {b : Nat} {t : TypeId} {xs : List Value} {n : Nat} (h : Blk w b t xs.toArray) (hn : xs.length = n) : Reads w w.heap.size 1 (some ⟨b, 0, none⟩) n xs :=
  ⟨by omega, fun _ => ⟨_, rfl, h.lt, fun j u hu => by
    have e : (Addr.add ⟨b, 0, none⟩ j) = ⟨b, j, none⟩ := by unfold Addr.add; split <;> simp_all
    rw [e, h.cell j]
    simpa using hu⟩⟩
theorem blk_new1 (w : World) (o : Obj) (t : TypeId) (cs : Array Value) : Blk ((w.alloc o).alloc (.cells cs t)) (w.heap.size + 1) t cs := by
  have := Blk.new (w.alloc o) t cs
  rwa [World.size_alloc] at this
theorem conv_one {w : World} {g : Nat} {x : UInt8} (h : Blk w g 5 #[bv x]) : (convert 87 9 (.slice (some ⟨g, 0, none⟩) 1 1)).run Try.prog w = .ok (strV [x]) w :=
  conv_string (s := [x]) (fp := fun _ => True) ⟨_, 1, rfl, by simp, by decide, by simp, by rintro a ⟨⟩; rfl, fun _ => ⟨g, 0, #[bv x], (0, 0), rfl, trivial, h, by intro j c hj; match j, hj with | 0, hj => (simp at hj; subst hj; rfl)⟩⟩
def GivesSB (s : ByteArray) (b : Bool) (w : World) (e : Ending) (w' : World) : Prop := e = .returned (.tuple #[.string s, .bool b]) ∧ Bel w w'
set_option maxRecDepth 100000 in
set_option maxHeartbeats 1000000 in
theorem ctP1_any (p : Prg) (A : Option Addr) (n c : Nat) (hf : p.fine) (w : World) : Calls Try.prog 29 #[p.v A n c] w (GivesSB ⟨(beN p.bt.toNat 8).toArray⟩ true w) := by
  have hb : 0 ≤ p.bt ∧ p.bt ≤ 1099511627776 := ⟨hf.2.2.2.2.2.2.2.1, hf.2.2.2.2.2.2.2.2⟩
  clear hf
  unfold Prg.v GivesSB
  obtain ⟨ph, cu, fu, sg, pt, bt⟩ := p
  have HB := Lib.hid hb
  clear hb
  go_enter Try.func29, Try.ntmps29
  go_wp2_with fail
  refine (ctLaid_any [bt] (by simpa using HB.out) _ _ _ ?hr (by simp)).mono ?_
  case hr => exact reads_row (t := 3) (by go_simp; exact blk_new1 _ _ _ _) rfl
  rintro e w1 ⟨rfl, hb1⟩
  simp only [layNs, List.flatMap_cons, List.flatMap_nil, List.append_nil, strV]
  go_wp2
  go_ret2
  exact ⟨rfl, by (repeat (first | exact Below.refl _ _ | assumption | exact Bel.refl _ | refine Bel.alloc ?_ _ | refine Bel.drew ?_ | refine Bel.drewN ?_ _ | refine Bel.then_ ?_ (by assumption) | refine Bel.setCell ?_ (by first | (simp; done) | (simp; omega)) _))⟩
set_option maxRecDepth 100000 in
set_option maxHeartbeats 1000000 in
theorem ctP3_any (p : Prg) (A : Option Addr) (n c : Nat) (w : World) : Calls Try.prog 33 #[p.v A n c] w (GivesSB p.cu true w) := by
  obtain ⟨ph, cu, fu, sg, pt, bt⟩ := p
  unfold Prg.v GivesSB
  go_enter Try.func33, Try.ntmps33
  go_wp2
  go_ret2
  exact ⟨rfl, by (repeat (first | exact Below.refl _ _ | assumption | exact Bel.refl _ | refine Bel.alloc ?_ _ | refine Bel.drew ?_ | refine Bel.drewN ?_ _ | refine Bel.then_ ?_ (by assumption) | refine Bel.setCell ?_ (by first | (simp; done) | (simp; omega)) _))⟩
set_option maxRecDepth 100000 in
set_option maxHeartbeats 1000000 in
theorem ctP5_any (p : Prg) (A : Option Addr) (n c : Nat) (w : World) : Calls Try.prog 35 #[p.v A n c] w (GivesSB ⟨#[]⟩ p.fu w) := by
  obtain ⟨ph, cu, fu, sg, pt, bt⟩ := p
  unfold Prg.v GivesSB
  go_enter Try.func35, Try.ntmps35
  go_wp2
  go_region
  all_goals
    go_wp2
    go_ret2
    exact ⟨rfl, by (repeat (first | exact Below.refl _ _ | assumption | exact Bel.refl _ | refine Bel.alloc ?_ _ | refine Bel.drew ?_ | refine Bel.drewN ?_ _ | refine Bel.then_ ?_ (by assumption) | refine Bel.setCell ?_ (by first | (simp; done) | (simp; omega)) _))⟩
set_option maxRecDepth 100000 in
set_option maxHeartbeats 1000000 in
theorem ctP7_any (p : Prg) (A : Option Addr) (n c : Nat) (hf : p.fine) (w : World) : Calls Try.prog 38 #[p.v A n c] w fun e w' => ∃ s, GivesSB s true w e w' := by
  obtain ⟨ph, cu, fu, sg, pt, bt⟩ := p
  have h : ph = 1 ∨ ph = 2 ∨ ph = 3 := by have h1 : 1 ≤ ph := hf.1; have h2 : ph ≤ 3 := hf.2.1; omega
  clear hf
  unfold Prg.v GivesSB
  rcases h with rfl | rfl | rfl
  · have hcv := conv_one (blk_new1 w (.cells #[.int .i64 1, .string cu, .bool fu, .int .i64 sg, .int .i64 pt, .int .i64 bt, .slice A n c] 28) 5 #[bv 1])
    have hbv : bv 1 = .int .u8 1 := rfl
    rw [hbv] at hcv
    unfold strV at hcv
    clear hbv
    go_enter Try.func38, Try.ntmps38
    go_wp2
    go_ret2
    exact ⟨_, rfl, by (repeat (first | exact Below.refl _ _ | assumption | exact Bel.refl _ | refine Bel.alloc ?_ _ | refine Bel.drew ?_ | refine Bel.drewN ?_ _ | refine Bel.then_ ?_ (by assumption) | refine Bel.setCell ?_ (by first | (simp; done) | (simp; omega)) _))⟩
  · have hcv := conv_one (blk_new1 w (.cells #[.int .i64 2, .string cu, .bool fu, .int .i64 sg, .int .i64 pt, .int .i64 bt, .slice A n c] 28) 5 #[bv 2])
    have hbv : bv 2 = .int .u8 2 := rfl
    rw [hbv] at hcv
    unfold strV at hcv
    clear hbv
    go_enter Try.func38, Try.ntmps38
    go_wp2
    go_ret2
    exact ⟨_, rfl, by (repeat (first | exact Below.refl _ _ | assumption | exact Bel.refl _ | refine Bel.alloc ?_ _ | refine Bel.drew ?_ | refine Bel.drewN ?_ _ | refine Bel.then_ ?_ (by assumption) | refine Bel.setCell ?_ (by first | (simp; done) | (simp; omega)) _))⟩
  · have hcv := conv_one (blk_new1 w (.cells #[.int .i64 3, .string cu, .bool fu, .int .i64 sg, .int .i64 pt, .int .i64 bt, .slice A n c] 28) 5 #[bv 3])
    have hbv : bv 3 = .int .u8 3 := rfl
    rw [hbv] at hcv
    unfold strV at hcv
    clear hbv
    go_enter Try.func38, Try.ntmps38
    go_wp2
    go_ret2
    exact ⟨_, rfl, by (repeat (first | exact Below.refl _ _ | assumption | exact Bel.refl _ | refine Bel.alloc ?_ _ | refine Bel.drew ?_ | refine Bel.drewN ?_ _ | refine Bel.then_ ?_ (by assumption) | refine Bel.setCell ?_ (by first | (simp; done) | (simp; omega)) _))⟩
set_option maxRecDepth 100000 in
set_option maxHeartbeats 1000000 in
theorem ctP9_any (p : Prg) (A : Option Addr) (n c : Nat) (hf : p.fine) (w : World) : Calls Try.prog 40 #[p.v A n c] w fun e w' => ∃ s, GivesSB s true w e w' := by
  have hb : (0 ≤ p.sg ∧ p.sg ≤ 1099511627776) ∧ 0 ≤ p.pt ∧ p.pt ≤ 1099511627776 := ⟨⟨by have := hf.2.2.2.1; omega, hf.2.2.2.2.1⟩, hf.2.2.2.2.2.1, hf.2.2.2.2.2.2.1⟩
  clear hf
  unfold Prg.v GivesSB
  obtain ⟨ph, cu, fu, sg, pt, bt⟩ := p
  have HB := Lib.hid hb
  clear hb
  go_enter Try.func40, Try.ntmps40
  go_wp2_with fail
  refine (ctLaid_any [sg, pt] (by simpa using HB.out) _ _ _ ?hr (by simp)).mono ?_
  case hr => exact reads_row (t := 3) (by go_simp; exact blk_new1 _ _ _ _) rfl
  rintro e w1 ⟨rfl, hb1⟩
  unfold strV
  go_wp2
  go_ret2
  exact ⟨_, rfl, by (repeat (first | exact Below.refl _ _ | assumption | exact Bel.refl _ | refine Bel.alloc ?_ _ | refine Bel.drew ?_ | refine Bel.drewN ?_ _ | refine Bel.then_ ?_ (by assumption) | refine Bel.setCell ?_ (by first | (simp; done) | (simp; omega)) _))⟩
end Go.Proofs.Ytnajjhgbombboaa
