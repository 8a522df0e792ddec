/-
  How many bytes there are: the loop over the map of files; what is left.
-/
import Derived.Test.YtiajggmnfaidjaaGreatDoorDn
import Derived.Laws.IdiomRangeMap
set_option linter.unusedVariables false
set_option linter.unusedSimpArgs false
set_option linter.unusedVariables false
set_option linter.unusedSimpArgs false
namespace Go.Proofs.YtiajggmnfaidjaaGreatDoor
open Go.RowKit

def lenV : Value → Int
  | .slice _ n _ => n
  | _ => 0
def sumSeen (es : List MapEntry) (seen : Array Nat) : Int := ((es.filter fun e => seen.contains e.born).map fun e => lenV e.val).sum
theorem sumSeen_none (es : List MapEntry) : sumSeen es #[] = 0 := by
  unfold sumSeen
  rw [List.filter_eq_nil_iff.2 (by simp)]
  rfl
theorem sumSeen_cons (e : MapEntry) (es : List MapEntry) (seen : Array Nat) : sumSeen (e :: es) seen = (if seen.contains e.born then lenV e.val else 0) + sumSeen es seen := by
  unfold sumSeen
  rw [List.filter_cons]
  split <;> simp
theorem sumSeen_other (seen : Array Nat) (b : Nat) : ∀ (es : List MapEntry), b ∉ es.map (·.born) → sumSeen es (seen.push b) = sumSeen es seen
  | [], _ => rfl
  | e :: es, h => by
    simp at h
    rw [sumSeen_cons, sumSeen_cons, sumSeen_other seen b es (by simpa using h.2), contains_push]
    have : (e.born == b) = false := by simp; exact fun e => h.1 e.symm
    rw [this, Bool.or_false]
theorem sumSeen_push (seen : Array Nat) (e : MapEntry) (hs : seen.contains e.born = false) : ∀ (es : List MapEntry), (es.map (·.born)).Nodup → e ∈ es → sumSeen es (seen.push e.born) = sumSeen es seen + lenV e.val
  | [], _, h => by simp at h
  | d :: es, hn, h => by
    simp only [List.map_cons, List.nodup_cons] at hn
    rw [sumSeen_cons, sumSeen_cons]
    rcases List.mem_cons.1 h with rfl | h
    · rw [sumSeen_other seen _ es hn.1, contains_push, hs]
      simp
      omega
    · have hne : (d.born == e.born) = false := by
        simp
        intro he
        exact hn.1 (he ▸ List.mem_map_of_mem h)
      rw [sumSeen_push seen e hs es hn.2 h, contains_push, hne, Bool.or_false]
      omega
theorem sumSeen_full (seen : Array Nat) (es : List MapEntry) (h : ∀ x ∈ es, seen.contains x.born = true) : sumSeen es seen = (es.map fun e => lenV e.val).sum := by
  unfold sumSeen
  rw [List.filter_eq_self.2 h]
theorem sumSeen_bound (seen : Array Nat) : ∀ (es : List MapEntry), (∀ e ∈ es, 0 ≤ lenV e.val) → 0 ≤ sumSeen es seen ∧ sumSeen es seen ≤ (es.map fun e => lenV e.val).sum
  | [], _ => by simp [sumSeen]
  | e :: es, h => by
    have ih := sumSeen_bound seen es (fun x hx => h x (List.mem_cons_of_mem _ hx))
    have h0 := h e (List.mem_cons_self ..)
    rw [sumSeen_cons, List.map_cons, List.sum_cons]
    split <;> omega
def sumTo (h : Int → Int) : Nat → Int
  | 0 => 0
  | n + 1 => sumTo h n + h n
theorem sumTo_congr {h h' : Int → Int} : ∀ n, (∀ k : Nat, k < n → h k = h' k) → sumTo h n = sumTo h' n
  | 0, _ => rfl
  | n + 1, e => by rw [sumTo, sumTo, sumTo_congr n (fun k hk => e k (by omega)), e n (by omega)]
theorem sumTo_zero : ∀ n, sumTo (fun _ => 0) n = 0
  | 0 => rfl
  | n + 1 => by rw [sumTo, sumTo_zero n]; rfl
theorem sumTo_one (h : Int → Int) (a c : Int) (ha : h a = 0) : ∀ n : Nat, sumTo (fun k => if k = a then c else h k) n = sumTo h n + if 0 ≤ a ∧ a < n then c else 0
  | 0 => by simp [sumTo]; omega
  | n + 1 => by
    rw [sumTo, sumTo, sumTo_one h a c ha n]
    by_cases e : (n : Int) = a
    · subst e; simp [ha]; omega
    · rw [if_neg e]
      by_cases e2 : 0 ≤ a ∧ a < n
      · rw [if_pos e2, if_pos (by omega)]; omega
      · rw [if_neg e2, if_neg (by omega)]; omega
theorem sumTo_nonneg {h : Int → Int} : ∀ n : Nat, (∀ k : Nat, k < n → 0 ≤ h k) → 0 ≤ sumTo h n
  | 0, _ => by simp [sumTo]
  | n + 1, e => by
    have := sumTo_nonneg n (fun k hk => e k (by omega))
    have := e n (by omega)
    rw [sumTo]; omega
theorem sum_entries (n : Nat) : ∀ (l : List MapEntry), l.Pairwise (fun x y => x.key ≠ y.key) → (∀ e ∈ l, ∃ a : Int, e.key = .int .i64 a ∧ 0 ≤ a ∧ a < n) →
    (l.map fun e => lenV e.val).sum = sumTo (fun k => (((l.find? (keyIs k)).map fun e => lenV e.val).getD 0)) n
  | [], _, _ => by simp [sumTo_zero]
  | e :: l, hp, hk => by
    obtain ⟨a, ha, h0, hn⟩ := hk e (List.mem_cons_self ..)
    have hp' := List.pairwise_cons.1 hp
    have ih := sum_entries n l hp'.2 (fun x hx => hk x (List.mem_cons_of_mem _ hx))
    have hno : l.find? (keyIs a) = none := by
      rw [List.find?_eq_none]
      intro x hx hkx
      obtain ⟨a', ha', _⟩ := hk x (List.mem_cons_of_mem _ hx)
      unfold keyIs at hkx
      rw [ha'] at hkx
      simp at hkx
      subst hkx
      exact hp'.1 x hx (by rw [ha, ha'])
    have hz : (((l.find? (keyIs a)).map fun e => lenV e.val).getD 0) = 0 := by rw [hno]; rfl
    have hone := sumTo_one (fun k => (((l.find? (keyIs k)).map fun e => lenV e.val).getD 0)) a (lenV e.val) hz n
    rw [if_pos ⟨h0, hn⟩] at hone
    rw [List.map_cons, List.sum_cons, ih]
    have hc : sumTo (fun k => ((((e :: l).find? (keyIs k)).map fun e => lenV e.val).getD 0)) n = sumTo (fun k => if k = a then lenV e.val else (((l.find? (keyIs k)).map fun e => lenV e.val).getD 0)) n := by
      apply sumTo_congr
      intro k hk'
      have : keyIs k e = ((k : Int) == a) := by unfold keyIs; rw [ha]; show (a == (k : Int)) = _; rw [Bool.eq_iff_iff, beq_iff_eq, beq_iff_eq]; exact eq_comm
      rw [List.find?_cons, this]
      by_cases hka : (k : Int) = a
      · simp [hka]
      · have : ((k : Int) == a) = false := by simp [hka]
        rw [this, if_neg hka]
    rw [hc, hone]
    omega

/-- How many bytes there are. -/
def tot (f : Int → List UInt8) : Int := sumTo (fun k => ((f k).length : Int)) 64
theorem tot_nonneg (f : Int → List UInt8) : 0 ≤ tot f := sumTo_nonneg _ (fun _ _ => by omega)
theorem lenV_of {w : World} {v : Value} {s : List UInt8} {fp : Nat → Prop} (h : BytesAt w v s fp) : lenV v = s.length := by
  obtain ⟨A, cap, rfl, _⟩ := h
  rfl
theorem FilesAt.open {w : World} {mf : Nat} {f : Int → List UInt8} {fp : Nat → Prop} (h : FilesAt w mf f fp) :
    ∃ es clk, w.heap[mf]? = some (.map es clk) ∧ MapKept.Stamped es clk ∧ (es.toList.map fun e => lenV e.val).sum = tot f ∧ ∀ e ∈ es.toList, 0 ≤ lenV e.val ∧ ∃ A n c, e.val = .slice A n c := by
  obtain ⟨h0, g, ⟨es, clk, hb, him⟩, h1, h2⟩ := h
  have hval : ∀ e ∈ es.toList, ∃ a : Int, e.key = .int .i64 a ∧ g a = some e.val := by
    intro e he
    obtain ⟨a, ha⟩ := him.keys e he
    refine ⟨a, ha, ?_⟩
    rw [← him.find a]
    have hs : es.toList.find? (keyIs a) = some e := by
      have hex : (es.toList.find? (keyIs a)).isSome := by
        rw [List.find?_isSome]
        exact ⟨e, he, by simp [keyIs, ha]⟩
      obtain ⟨d, hd⟩ := Option.isSome_iff_exists.1 hex
      have hkd := List.find?_some hd
      have hmd := List.mem_of_find?_eq_some hd
      obtain ⟨a', ha'⟩ := him.keys d hmd
      have : a' = a := by unfold keyIs at hkd; rw [ha'] at hkd; simpa using hkd
      subst this
      by_cases hde : d = e
      · rw [hd, hde]
      · exfalso
        obtain ⟨i, hi⟩ := List.mem_iff_getElem?.1 hmd
        obtain ⟨j, hj⟩ := List.mem_iff_getElem?.1 he
        have hij : i ≠ j := fun h => by subst h; rw [hi] at hj; exact hde (Option.some.inj hj)
        have hil := (List.getElem?_eq_some_iff.1 hi)
        have hjl := (List.getElem?_eq_some_iff.1 hj)
        rcases Nat.lt_or_gt_of_ne hij with hlt | hlt
        · have := List.pairwise_iff_getElem.1 him.nodup i j hil.1 hjl.1 hlt
          rw [hil.2, hjl.2] at this
          exact this (ha'.trans ha.symm)
        · have := List.pairwise_iff_getElem.1 him.nodup j i hjl.1 hil.1 hlt
          rw [hil.2, hjl.2] at this
          exact this (ha.trans ha'.symm)
    rw [hs]
    rfl
  have hlen : ∀ e ∈ es.toList, ∃ a : Int, e.key = .int .i64 a ∧ 0 ≤ a ∧ a < 64 ∧ lenV e.val = (f a).length ∧ ∃ A n c, e.val = .slice A n c := by
    intro e he
    obtain ⟨a, ha, hg⟩ := hval e he
    obtain ⟨h3, h4, h5⟩ := h1 a _ hg
    obtain ⟨A, cap, hv, _⟩ := id h5
    exact ⟨a, ha, h3, h4, lenV_of h5, A, _, cap, hv⟩
  refine ⟨es, clk, hb, ⟨him.young, him.born, ?_⟩, ?_, ?_⟩
  · have := (List.pairwise_map (f := MapEntry.key) (R := fun x y => x ≠ y)).2 him.nodup
    exact this
  · rw [sum_entries 64 es.toList him.nodup (fun e he => by obtain ⟨a, h3, h4, h5, _⟩ := hlen e he; exact ⟨a, h3, h4, by omega⟩)]
    unfold tot
    apply sumTo_congr
    intro k hk
    have hf := him.find k
    cases he : es.toList.find? (keyIs k) with
    | none =>
      rw [he] at hf
      have := h2 k hf.symm
      simp [this]
    | some e =>
      have hmem := List.mem_of_find?_eq_some he
      have hkk := List.find?_some he
      obtain ⟨a, h3, h4, h5, h6, _⟩ := hlen e hmem
      have : a = k := by unfold keyIs at hkk; rw [h3] at hkk; simpa using hkk
      subst this
      simp [h6]
  · intro e he
    obtain ⟨a, h3, h4, h5, h6, h7⟩ := hlen e he
    exact ⟨by rw [h6]; omega, h7⟩

set_option maxRecDepth 100000 in
set_option maxHeartbeats 400000 in
theorem total_any {w : World} {mf : Nat} {f : Int → List UInt8} {fp : Nat → Prop} (h : FilesAt w mf f fp) (ht : tot f ≤ 1000000000) : Calls Tryz.prog 84 #[.map (some mf)] w fun e w' => e = .returned (.int .i64 (tot f)) ∧ Bel w w' := by
  obtain ⟨es, clock, hb, hst, hsum, hall⟩ := h.open
  have hrg := run_range_map (P := Tryz.prog) w 58 3 43 mf es clock Tryz.underlying58 hb
  have HT := Lib.hid ht
  have HSUM := Lib.hid hsum
  have HB := Lib.hid hb
  clear ht hsum h hb
  go_enter Tryz.func84, Tryz.ntmps84
  go_wp2
  go_loopw [2] (fun s wr => ∃ (seen : Array Nat), wr.heap[w.heap.size]? = some (.mapIter (some mf) clock seen clock) ∧ Bel w wr ∧ s = .int .i64 (sumSeen es.toList seen)) (fun _ w' => (leftOf es (w'.iterSeen w.heap.size)).size)
  case atStart => exact ⟨#[], World.alloc_heap_new w _, (Bel.refl w).alloc _, by rw [sumSeen_none]⟩
  case round =>
    obtain ⟨seen, hr, hbel, rfl⟩ := hrel
    have hb1 : wr.heap[mf]? = some (.map es clock) := hbel.deferred HB.out
    have law := run_next_at (P := Tryz.prog) wr 0 w.heap.size mf clock clock seen es clock hr hb1 hst.1 (Nat.le_refl _)
    have hrl := (Array.getElem?_eq_some_iff.1 hr).1
    rcases law with ⟨h0, hrun⟩ | ⟨e, he, w1, hw1, hrun⟩
    · have hnx : ∀ ty, (Instr.next (.pointer (some ⟨w.heap.size, 0, none⟩)) false ty).run Tryz.prog wr = .ok (.tuple #[.bool false]) wr := fun _ => hrun
      have H0 := Lib.hid h0
      have HBEL := Lib.hid hbel
      clear h0 hbel hb1 hr hrun
      go_wp2
      go_ret
      rw [sumSeen_full seen es.toList (all_seen es seen H0.out), HSUM.out]
      exact ⟨rfl, HBEL.out⟩
    · obtain ⟨hge, A, n, c, hval⟩ := hall e (mem_left he).1
      have hbel1 : Bel w w1 := by rcases hw1 with rfl | rfl; exact hbel; exact hbel.drew
      have hs1 : w1.heap = wr.heap := by rcases hw1 with rfl | rfl <;> rfl
      obtain ⟨w2, hw2⟩ : ∃ w2, w2 = ChangeMaps.setBlock w1 w.heap.size (.mapIter (some mf) clock (seen.push e.born) clock) := ⟨_, rfl⟩
      rw [hval, ← hw2] at hrun
      have hnx : ∀ ty, (Instr.next (.pointer (some ⟨w.heap.size, 0, none⟩)) false ty).run Tryz.prog wr = .ok (.tuple #[.bool true, e.key, .slice A n c]) w2 := fun _ => hrun
      have hr2 : w2.heap[w.heap.size]? = some (.mapIter (some mf) clock (seen.push e.born) clock) := by rw [hw2]; exact World.putObj_heap_same (by rw [hs1]; exact hrl)
      have hbel2 : Bel w w2 := by rw [hw2]; exact Bel.putObj hbel1 (Nat.le_refl _) _
      have hb2 : w2.heap[mf]? = some (.map es clock) := hbel2.deferred HB.out
      have hen := run_entry_at (P := Tryz.prog) w2 w.heap.size mf clock seen es clock e hr2 hb2 (mem_left he).1 hst.2.1
      rw [hval] at hen
      have hbnd := sumSeen_bound seen es.toList (fun e he => (hall e he).1)
      have hpush := sumSeen_push seen e (mem_left he).2 es.toList hst.2.1 (mem_left he).1
      have hbnd2 := sumSeen_bound (seen.push e.born) es.toList (fun e he => (hall e he).1)
      rw [HSUM.out] at hbnd hbnd2
      have hlv : lenV e.val = n := by rw [hval]; rfl
      have ht := HT.out
      have hn0 : (n : Int) ≤ 1000000000 := by omega
      have hs0 := hbnd.1
      have hs2 : sumSeen es.toList seen + n ≤ 1000000000 := by omega
      have HP : Hid (sumSeen es.toList (seen.push e.born) = sumSeen es.toList seen + n) := by show _ = _; rw [hpush, hlv]
      have HE := Lib.hid he
      have HR := Lib.hid hr
      have HR2 := Lib.hid hr2
      have HB2 := Lib.hid hbel2
      clear hbel hbel1 hbel2 hb2 hb1 hpush hlv hbnd hbnd2 hval he ht hr hr2 hw2 hs1 hw1 hrun
      go_wp2
      go_roundw
      case rel => exact ⟨seen.push e.born, HR2.out, HB2.out, by rw [HP.out]⟩
      case measure =>
        have e1 : ∀ (W : World) (sn : Array Nat), W.heap[w.heap.size]? = some (.mapIter (some mf) clock sn clock) → W.iterSeen w.heap.size = sn := fun W sn h => by simp [World.iterSeen, h]
        rw [e1 _ _ HR2.out, e1 _ _ HR.out]
        exact left_shrinks es seen e HE.out
end Go.Proofs.YtiajggmnfaidjaaGreatDoor

/-
  The disk's Left, Loose.
-/
set_option linter.unusedVariables false
set_option linter.unusedSimpArgs false
namespace Go.Proofs.YtiajggmnfaidjaaGreatDoor
open Go.RowKit

theorem keepS {w w1 w2 : World} {bd mf : Nat} {room : Int} {f : Int → List UInt8} {fp : Nat → Prop} (hb : Bel w1 w2) (h : w1.cell? ⟨bd, 0, none⟩ = some (.map (some mf)) ∧ w1.cell? ⟨bd, 1, none⟩ = some (.int .i64 room) ∧ Hid (FilesAt w1 mf f fp ∧ Bel w w1)) :
    w2.cell? ⟨bd, 0, none⟩ = some (.map (some mf)) ∧ w2.cell? ⟨bd, 1, none⟩ = some (.int .i64 room) ∧ Hid (FilesAt w2 mf f fp ∧ Bel w w2) :=
  ⟨hb.c h.1, hb.c h.2.1, h.2.2.out.1.kept (fun b _ hl => hb.block b hl) (fun _ h => h), h.2.2.out.2.then_ hb⟩
theorem totalS {w w1 : World} {mf : Nat} {f : Int → List UInt8} {fp : Nat → Prop} (bd : Nat) (room : Int) (h : w1.cell? ⟨bd, 0, none⟩ = some (.map (some mf)) ∧ w1.cell? ⟨bd, 1, none⟩ = some (.int .i64 room) ∧ Hid (FilesAt w1 mf f fp ∧ Bel w w1)) (ht : tot f ≤ 1000000000) : Calls Tryz.prog 84 #[.map (some mf)] w1 fun e w' => e = .returned (.int .i64 (tot f)) ∧ Bel w1 w' := total_any h.2.2.out.1 ht
set_option maxRecDepth 100000 in
set_option maxHeartbeats 400000 in
theorem left_any {w : World} {bd : Nat} {m : DM} {fp : Nat → Prop} (h : DiskIs w bd m fp) (hr : 0 < m.room) (hr2 : m.room ≤ 16777216) (ht : tot m.files ≤ m.room) : Calls Tryz.prog 74 #[.pointer (some ⟨bd, 0, none⟩)] w fun e w' => e = .returned (.int .i64 (m.room - tot m.files)) ∧ Bel w w' := by
  have HN := Lib.hid (none_disk h (by omega))
  obtain ⟨mf, ms, L, h1, h2, h3, h4, h5, h6⟩ := h
  have c0 : w.cell? ⟨bd, 0, none⟩ = some (.map (some mf)) := by simp [World.cell?, h1]
  have c1 : w.cell? ⟨bd, 1, none⟩ = some (.int .i64 m.room) := by simp [World.cell?, h1]
  have HF : Hid (FilesAt w mf m.files fp ∧ Bel w w) := ⟨h4, Bel.refl w⟩
  have h0 := tot_nonneg m.files
  have hT : tot m.files ≤ 1000000000 := by omega
  have HT := Lib.hid hT
  clear hT
  clear h1 h2 h3 h4 h5 h6
  go_enter Tryz.func74, Tryz.ntmps74
  go_wp2_with (go_at_call 40; refine HN.out.mono ?_; rintro e w' ⟨rfl, rfl⟩)
  go_region_held3 (fun w' => w'.cell? ⟨bd, 0, none⟩ = some (.map (some mf)) ∧ w'.cell? ⟨bd, 1, none⟩ = some (.int .i64 m.room) ∧ Hid (FilesAt w' mf m.files fp ∧ Bel w w'))
    (first | exact ⟨c0, c1, HF⟩ | exact keepS (Bel.drew (Bel.refl _)) ⟨c0, c1, HF⟩ | exact keepS (by assumption) (by assumption) | exact keepS (Bel.drew (Bel.refl _)) (by assumption))
    ((go_at_call 84; refine (totalS bd m.room (by assumption) HT.out).mono ?_; rintro e w2 ⟨rfl, hb⟩))
  go_wp2
  go_ret
  refine ⟨ret_int ?_, (Bel.drew (Bel.refl w)).then_ hb⟩
  exact IntWalk.i64_in _ (by omega)
end Go.Proofs.YtiajggmnfaidjaaGreatDoor
