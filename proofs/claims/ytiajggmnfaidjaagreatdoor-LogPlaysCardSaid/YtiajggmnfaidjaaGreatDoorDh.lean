/-
  The disk: Crash, the loop.
-/
import Derived.Test.YtiajggmnfaidjaaGreatDoorDg
set_option linter.unusedVariables false
set_option linter.unusedSimpArgs false
set_option linter.unusedVariables false
set_option linter.unusedSimpArgs false
namespace Go.Proofs.YtiajggmnfaidjaaGreatDoor
open Go.RowKit

theorem ThingAt.ends {w : World} {c0 c1 c2 c3 c4 : Value} {x : Th} {fp : Nat → Prop} (h : ThingAt w [c0, c1, c2, c3, c4] x fp) : c0 = .int .i64 x.file ∧ (∃ f ca, c1 = .func f #[] ca) ∧ (∃ A n c, c2 = .slice A n c) ∧ c3 = .int .i64 x.many ∧ c4 = .bool x.cuts := by
  rcases h.2 with ⟨h1, h2, bx, v, _, hcs, _, A, c, hv, _⟩ | ⟨h1, _, _, _, bx, _, hcs, _⟩ <;> simp at hcs
  · simp [hcs, h1, h2]; exact ⟨_, _, _, hv⟩
  · simp [hcs, h1]
theorem TH.kept_bel {w w' : World} {cs : List Value} {x : Th} {fp : Nat → Prop} (h : ThingAt w cs x fp) (hb : Bel w w') : ThingAt w' cs x fp := h.kept (fun b _ hl => hb.block b hl) (fun _ h => h)
theorem crash_not {w : World} {bd mf ms k : Nat} {L : Value} {cs : List Value} {m : DM} {fp : Nat → Prop} {keep torn : Int} {x : Th} (hs : crashTo m keep torn (k + 1) = crashF keep torn (crashTo m keep torn k) k x) (hf : crashF keep torn (crashTo m keep torn k) k x = crashTo m keep torn k)
    (hX : DiskX w bd mf ms L cs { m with files := crashTo m keep torn k } fp) : DiskX w bd mf ms L cs { m with files := crashTo m keep torn (k + 1) } fp := by rw [hs, hf]; exact hX
theorem crash_did {w w' : World} {bd mf ms k : Nat} {L : Value} {cs : List Value} {m : DM} {fp : Nat → Prop} {keep torn : Int} {x y : Th} (hs : crashTo m keep torn (k + 1) = crashF keep torn (crashTo m keep torn k) k x) (hf : crashF keep torn (crashTo m keep torn k) k x = doneF (crashTo m keep torn k) y)
    (hX : DiskX w bd mf ms L cs { m with files := crashTo m keep torn k } fp) (hF : FilesAt w' mf (doneF (crashTo m keep torn k) y) (fun b => fp b ∨ w.heap.size ≤ b)) (hg : w.grownBy w' (some mf)) : DiskX w' bd mf ms L cs { m with files := crashTo m keep torn (k + 1) } (fun b => fp b ∨ w.heap.size ≤ b) := by
  rw [hs, hf]
  exact hX.files_turn hF hg (fun b h => .inl h)
theorem opp_did {w w' : World} {bd mf ms : Nat} {L : Value} {cs : List Value} {m : DM} {fp : Nat → Prop} (hX : DiskX w bd mf ms L cs m fp) (hg : w.grownBy w' (some mf)) : Opp fp (fun b => fp b ∨ w.heap.size ≤ b) w w' :=
  ⟨hg.os, hg.tape, hg.output, hg.size, fun k hk hn => hg.block k hk (fun e => by cases e; exact hn hX.files.1), fun b h => h⟩
theorem ThingAt.put {w : World} {c0 c1 c3 c4 : Value} {A : Option Addr} {n c : Nat} {x : Th} {fp : Nat → Prop} (h : ThingAt w [c0, c1, .slice A n c, c3, c4] x fp) (hc : x.cuts = false) : n = x.bytes.length ∧ BytesAt w (.slice A n c) x.bytes fp := by
  rcases h.2 with ⟨_, _, bx, v, _, hcs, _, hv⟩ | ⟨h1, _⟩
  · simp at hcs
    obtain ⟨_, _, rfl, _⟩ := hcs
    exact ⟨hv.len, hv⟩
  · rw [hc] at h1; cases h1
theorem BytesAt.taken {w : World} {A : Option Addr} {n cap : Nat} {s : List UInt8} {fp : Nat → Prop} (h : BytesAt w (.slice A n cap) s fp) (k : Nat) (hk : k ≤ n) : Reads w w.heap.size 1 A (s.take k).length ((s.take k).map bv) := (h.take k hk).reads.2
theorem BytesAt.noneLen {w : World} {A : Option Addr} {n cap k : Nat} {s : List UInt8} {fp : Nat → Prop} (h : BytesAt w (.slice A n cap) s fp) (hk : k ≤ n) : A = none → k = 0 ∧ cap = 0 := fun hA => by
  obtain ⟨A', cap', e, h2, h3, h4, _⟩ := h
  simp only [Value.slice.injEq] at e
  obtain ⟨rfl, rfl, rfl⟩ := e
  have := h4 hA
  omega
theorem blk5 {w : World} {b : Nat} {T : TypeId} {c0 c1 c2 c3 c4 : Value} (h : Blk w b T #[c0, c1, c2, c3, c4]) : w.cell? ⟨b, 0, none⟩ = some c0 ∧ w.cell? ⟨b, 1, none⟩ = some c1 ∧ w.cell? ⟨b, 2, none⟩ = some c2 ∧ w.cell? ⟨b, 3, none⟩ = some c3 ∧ w.cell? ⟨b, 4, none⟩ = some c4 ∧ ∀ i, w.frozen? ⟨b, i, none⟩ = false :=
  ⟨h.cell 0, h.cell 1, h.cell 2, h.cell 3, h.cell 4, h.frozen⟩
theorem Opp.wider {fp : Nat → Prop} {w w' : World} (h : Opp fp fp w w') : Opp fp (fun b => fp b ∨ w.heap.size ≤ b) w w' := ⟨h.os, h.tape, h.output, h.size, h.block, fun b h => h⟩
theorem crash_start {w : World} {bd mf ms : Nat} {L : Value} {cs : List Value} {m : DM} {fp : Nat → Prop} {es : Array MapEntry} {clk : Nat} {keep torn : Int} (hX : DiskX w bd mf ms L cs m fp) (hm : w.heap[ms]? = some (.map es clk)) (hbl : bd < w.heap.size) :
    DiskX ((w.setCell ⟨bd, 0, none⟩ (.map (some w.heap.size))).alloc (.map es clk)) bd w.heap.size ms L cs { m with files := crashTo m keep torn 0 } (fun b => fp b ∨ w.heap.size ≤ b) ∧ Opp fp (fun b => fp b ∨ w.heap.size ≤ b) w ((w.setCell ⟨bd, 0, none⟩ (.map (some w.heap.size))).alloc (.map es clk)) := by
  have hml : ms < w.heap.size := (Array.getElem?_eq_some_iff.1 hm).1
  have hkeep : ∀ k, k < w.heap.size → k ≠ bd → ((w.setCell ⟨bd, 0, none⟩ (.map (some w.heap.size))).alloc (.map es clk)).heap[k]? = w.heap[k]? := fun k hk hn =>
    (Below.heap_alloc _ _ k (by simpa using hk)).trans (Below.heap_setCell _ _ _ _ hn)
  have hcells : ∀ (b : Nat) (ds : Array Value) (T : TypeId) (fz : Nat × Nat), T ≠ 61 → w.heap[b]? = some (Obj.cells ds T fz) → ((w.setCell ⟨bd, 0, none⟩ (.map (some w.heap.size))).alloc (.map es clk)).heap[b]? = some (Obj.cells ds T fz) := fun b ds T fz hT hbk => by
    refine (hkeep b (Array.getElem?_eq_some_iff.1 hbk).1 (fun e => ?_)).trans hbk
    subst e
    rw [hX.blk] at hbk
    injection hbk with hbk
    injection hbk with _ hbk _
    exact hT hbk.symm
  have hsoft : Soft fp w ((w.setCell ⟨bd, 0, none⟩ (.map (some w.heap.size))).alloc (.map es clk)) := fun b ds T fz _ h1 _ hbk => hcells b ds T fz h1 hbk
  have hmb : ms ≠ bd := fun e => by rw [e, hX.blk] at hm; cases hm
  have hnew : ((w.setCell ⟨bd, 0, none⟩ (.map (some w.heap.size))).alloc (.map es clk)).heap[w.heap.size]? = some (.map es clk) := by
    have := World.alloc_heap_new (w.setCell ⟨bd, 0, none⟩ (.map (some w.heap.size))) (.map es clk)
    simpa using this
  have hS := hX.synced
  obtain ⟨h0, g, ⟨es', clk', hm', him⟩, h1, h2⟩ := hS
  rw [hm] at hm'
  cases hm'
  refine ⟨⟨?_, .inl hX.own, by omega, ⟨.inr (Nat.le_refl _), g, ⟨es, clk, hnew, him⟩, fun k v hv => ⟨(h1 k v hv).1, (h1 k v hv).2.1, (h1 k v hv).2.2.soft hsoft (fun b h => .inl h)⟩, h2⟩,
    hX.synced.soft hsoft (hkeep ms hml hmb) (fun b h => .inl h), ?_, fun g hg => .inl (hX.rowfp g hg), hX.things.soft hsoft (fun b h => .inl h)⟩, rfl, rfl, rfl, by simp, fun k hk hn => hkeep k hk (fun e => hn (e ▸ hX.own)), fun b h => h⟩
  · have := Blk.alloc (Blk.set_ (show Blk w bd 61 _ from hX.blk) 0 (.map (some w.heap.size))) (.map es clk)
    simpa [Blk] using this
  · refine ownsRow_kept hX.row (fun b hb hl => hkeep b hl (fun e => ?_))
    subst e
    rcases hX.row.2 with ⟨h, _⟩ | ⟨g', cap, cur, hv, _, hh, _⟩
    · rw [h] at hb; simp [Value.ownBlock] at hb
    · rw [hv] at hb
      simp [Value.ownBlock] at hb
      subst hb
      rw [hX.blk] at hh
      injection hh with hh
      injection hh with _ hh _
      exact absurd hh (by decide)
set_option maxRecDepth 100000 in
set_option maxHeartbeats 4000000 in
theorem crash_any {w : World} {bd : Nat} {m : DM} {fp : Nat → Prop} (h : DiskIs w bd m fp) (hr : m.room ≠ 0) (keep torn : Int) (hk0 : 0 ≤ keep) (ht0 : 0 ≤ torn) (hlen : ∀ k x, m.loose[k]? = some x → ((crashTo m keep torn k) x.file).length + x.bytes.length ≤ 1000000000) (hn : m.loose.length ≤ 1000000) :
    Calls Tryz.prog 18 #[.pointer (some ⟨bd, 0, none⟩), .int .i64 keep, .int .i64 torn] w (GivesOp bd (m.crash keep torn) 0 fp w) := by
  have HN := Lib.hid (none_disk h hr)
  obtain ⟨mf, ms, L, cs, hX⟩ := h.x
  obtain ⟨es, clk, hm⟩ := hX.synced.block
  have hb := hX.blk
  have HC := Lib.hid (mapsclone_any hm)
  have c0 : w.cell? ⟨bd, 0, none⟩ = some (.map (some mf)) := by simp [World.cell?, hb]
  have c2 : w.cell? ⟨bd, 2, none⟩ = some (.map (some ms)) := by simp [World.cell?, hb]
  have c3 : w.cell? ⟨bd, 3, none⟩ = some L := by simp [World.cell?, hb]
  have f0 : w.frozen? ⟨bd, 0, none⟩ = false := by simp [World.frozen?, hb]
  have hbl : bd < w.heap.size := (Array.getElem?_eq_some_iff.1 hb).1
  obtain ⟨AL, cL, rfl⟩ : ∃ A c, L = .slice A m.loose.length c := by
    rcases hX.row.2 with ⟨e, e2⟩ | ⟨g, cap, cur, hv, _⟩
    · exact ⟨none, 0, by rw [e, e2]⟩
    · exact ⟨_, _, hv⟩
  have HX := Lib.hid hX
  have HM := Lib.hid hm
  have HB := Lib.hid hb
  have HLEN := Lib.hid hlen
  have HR := Lib.hid hr
  have hkb : decide (keep < 0) = false := by simp; omega
  have htb : decide (torn < 0) = false := by simp; omega
  clear h hX hm hb hlen hr
  go_enter Tryz.func18, Tryz.ntmps18
  go_wp2_with (first | (go_at_call 40; refine HN.out.mono ?_; rintro e w' ⟨rfl, rfl⟩) | (go_at_call 41; refine HC.out.mono ?_; rintro e w' ⟨rfl, rfl⟩))
  clear c0 c2 c3 f0 HN HC hkb htb
  go_loopw [34] (fun i wr => ∃ (k : Nat) (fpk : Nat → Prop), i = .int .i64 k ∧ k ≤ m.loose.length ∧ DiskX wr bd w.heap.size ms (.slice AL m.loose.length cL) cs { m with files := crashTo m keep torn k } fpk ∧ Opp fp fpk w wr) (fun i _ => m.loose.length - (intOf i).toNat)
  case atStart => exact ⟨0, fun b => fp b ∨ w.heap.size ≤ b, rfl, Nat.zero_le _, crash_start HX.out HM.out hbl⟩
  case round =>
    obtain ⟨k, fpk, rfl, hkn, hX, hO⟩ := hrel
    by_cases hlt : k < m.loose.length
    · obtain ⟨x, hx⟩ : ∃ x, m.loose[k]? = some x := ⟨_, List.getElem?_eq_getElem hlt⟩
      obtain ⟨g, cap, c0, c1, c2, c3, c4, hL, hth, q0, q1, q2, q3, q4⟩ := hX.thing k x hx
      simp only [Value.slice.injEq, true_and] at hL
      obtain ⟨rfl, rfl⟩ := hL
      have hlenk := HLEN.out k x hx
      have hbl' : bd < wr.heap.size := Nat.lt_of_lt_of_le hbl hO.size
      have r0 : wr.cell? ⟨bd, 0, none⟩ = some (.map (some w.heap.size)) := by simp [World.cell?, hX.blk]
      have hfile := hth.1
      obtain ⟨rfl, ⟨fn1, ca1, rfl⟩, ⟨A2, n2, cp2, rfl⟩, rfl, rfl⟩ := hth.ends
      have HXK := Lib.hid hX
      have HO := Lib.hid hO
      have HXX := Lib.hid hx
      have HTH := Lib.hid hth
      have hs1 := crashTo_succ (keep := keep) (torn := torn) hx
      have HS1 := Lib.hid hs1
      have HLK := Lib.hid hlenk
      clear hX hO hx hth hs1 hlenk
      rcases Int.lt_trichotomy (k : Int) keep with hk | hk | hk
      · have hke : ((k : Int) == keep) = false := beq_eq_false_iff_ne.2 (by omega)
        obtain ⟨W, hW⟩ : ∃ W, W = (wr.alloc (.cells #[.int .i64 x.file, .func fn1 #[] ca1, .slice A2 n2 cp2, .int .i64 x.many, .bool x.cuts] 93)).drew := ⟨_, rfl⟩
        have hbW : Bel wr W := by rw [hW]; exact ((Bel.refl wr).alloc _).drew
        have hXW := HXK.out.bel hbW
        have HDN := Lib.hid (done_any hXW.files (TH.kept_bel HTH.out hbW) (by have := HLK.out; unfold manyB; show (crashTo m keep torn k x.file).length + x.bytes.length ≤ _; omega))
        have hS0 : (fun w' => w'.cell? ⟨bd, 0, none⟩ = some (.map (some w.heap.size)) ∧ w'.cell? ⟨wr.heap.size, 0, none⟩ = some (.int .i64 x.file) ∧ w'.cell? ⟨wr.heap.size, 1, none⟩ = some (.func fn1 #[] ca1) ∧ w'.cell? ⟨wr.heap.size, 2, none⟩ = some (.slice A2 n2 cp2) ∧ w'.cell? ⟨wr.heap.size, 3, none⟩ = some (.int .i64 x.many) ∧ w'.cell? ⟨wr.heap.size, 4, none⟩ = some (.bool x.cuts)) (wr.alloc (.cells #[.int .i64 x.file, .func fn1 #[] ca1, .slice A2 n2 cp2, .int .i64 x.many, .bool x.cuts] 93)).drew := ⟨hbW.c r0 |> (hW ▸ ·), by go_simp, by go_simp, by go_simp, by go_simp, by go_simp⟩
        have HMF := Lib.hid hXW.files.block
        have HW := Lib.hid hW
        have HBW := Lib.hid hbW
        have HXW := Lib.hid hXW
        clear hW hbW hXW
        go_wp2
        go_region_held3 (fun w' => w'.cell? ⟨bd, 0, none⟩ = some (.map (some w.heap.size)) ∧ w'.cell? ⟨wr.heap.size, 0, none⟩ = some (.int .i64 x.file) ∧ w'.cell? ⟨wr.heap.size, 1, none⟩ = some (.func fn1 #[] ca1) ∧ w'.cell? ⟨wr.heap.size, 2, none⟩ = some (.slice A2 n2 cp2) ∧ w'.cell? ⟨wr.heap.size, 3, none⟩ = some (.int .i64 x.many) ∧ w'.cell? ⟨wr.heap.size, 4, none⟩ = some (.bool x.cuts))
          (first | exact hS0 | exact keepB6 (by assumption) (by assumption))
          ((go_at_call 43; rw [← HW.out]; refine HDN.out.mono ?_; rintro e w1 ⟨rfl, hF1, hg1⟩; have hg1' := keepM hg1 HMF.out; rw [HW.out] at hg1'))
        have HF1 := Lib.hid hF1
        have HG1 := Lib.hid hg1
        clear hF1 hg1 hg1' hS0
        go_wp2
        go_roundw
        case rel => exact ⟨k + 1, _, by go_num, by omega, crash_did HS1.out (by unfold crashF; rw [if_pos (by omega)]) HXW.out HF1.out HG1.out, HO.out.trans ((Opp.of_bel HBW.out).trans (opp_did HXW.out HG1.out))⟩
        case measure => simp [intOf]; omega
      · subst hk
        by_cases hcut : x.cuts = true
        · have HCU := Lib.hid hcut
          go_wp2
          go_roundw
          case rel => exact ⟨k + 1, fpk, by go_num, by omega, crash_not HS1.out (by unfold crashF; rw [if_neg (by omega), if_neg (by rw [HCU.out]; simp)]) (HXK.out.bel ((Bel.refl wr).alloc _)), HO.out.trans (Opp.of_bel ((Bel.refl wr).alloc _))⟩
          case measure => simp [intOf]; omega
        · rw [Bool.not_eq_true] at hcut
          have HCU := Lib.hid hcut
          obtain ⟨hn2, hbx⟩ := HTH.out.put hcut
          subst hn2
          obtain ⟨kk, hkk, hkl⟩ : ∃ kk : Nat, (kk : Int) = min torn x.bytes.length ∧ kk ≤ x.bytes.length := ⟨(min torn x.bytes.length).toNat, by omega, by omega⟩
          obtain ⟨W, hW⟩ : ∃ W, W = (wr.alloc (.cells #[.int .i64 x.file, .func fn1 #[] ca1, .slice A2 x.bytes.length cp2, .int .i64 x.many, .bool false] 93)).drew := ⟨_, rfl⟩
          have hbW : Bel wr W := by rw [hW]; exact ((Bel.refl wr).alloc _).drew
          have hszW : W.heap.size = wr.heap.size + 1 := by rw [hW]; simp
          have hbxW := hbx.bel hbW
          have hrd := hbxW.taken kk hkl
          have hbxn : A2 = none → kk = 0 ∧ cp2 = 0 := hbx.noneLen hkl
          have HBE := Lib.hid (behind_any x.file hfile.1 hfile.2 A2 kk cp2 (x.bytes.take kk) (by simp; omega) hbxn (by have := HLK.out; simp; unfold manyB; omega) W hrd)
          have hS0 : (wr.alloc (.cells #[.int .i64 x.file, .func fn1 #[] ca1, .slice A2 x.bytes.length cp2, .int .i64 x.many, .bool false] 93)).drew.cell? ⟨bd, 0, none⟩ = some (.map (some w.heap.size)) ∧ (wr.alloc (.cells #[.int .i64 x.file, .func fn1 #[] ca1, .slice A2 x.bytes.length cp2, .int .i64 x.many, .bool false] 93)).drew.cell? ⟨wr.heap.size, 0, none⟩ = some (.int .i64 x.file) ∧ (wr.alloc (.cells #[.int .i64 x.file, .func fn1 #[] ca1, .slice A2 x.bytes.length cp2, .int .i64 x.many, .bool false] 93)).drew.cell? ⟨wr.heap.size, 1, none⟩ = some (.func fn1 #[] ca1) ∧ (wr.alloc (.cells #[.int .i64 x.file, .func fn1 #[] ca1, .slice A2 x.bytes.length cp2, .int .i64 x.many, .bool false] 93)).drew.cell? ⟨wr.heap.size, 2, none⟩ = some (.slice A2 x.bytes.length cp2) ∧ (wr.alloc (.cells #[.int .i64 x.file, .func fn1 #[] ca1, .slice A2 x.bytes.length cp2, .int .i64 x.many, .bool false] 93)).drew.cell? ⟨wr.heap.size, 3, none⟩ = some (.int .i64 x.many) ∧ (wr.alloc (.cells #[.int .i64 x.file, .func fn1 #[] ca1, .slice A2 x.bytes.length cp2, .int .i64 x.many, .bool false] 93)).drew.cell? ⟨wr.heap.size, 4, none⟩ = some (.bool false) := ⟨hbW.c r0 |> (hW ▸ ·), by go_simp, by go_simp, by go_simp, by go_simp, by go_simp⟩
          have HBX : Hid (Blk W wr.heap.size 93 #[.int .i64 x.file, .func fn1 #[] ca1, .slice A2 x.bytes.length cp2, .int .i64 x.many, .bool false]) := by rw [hW]; exact Blk.drew (Blk.new wr _ _)
          have HW := Lib.hid hW
          have HBW := Lib.hid hbW
          have HSZ := Lib.hid hszW
          have hmn := ite_min
          have hkk1 : 0 ≤ min torn (x.bytes.length : Int) := by omega
          have hkk2 : min torn (x.bytes.length : Int) ≤ cp2 := by obtain ⟨_, _, e, h2, _⟩ := hbx; simp at e; obtain ⟨rfl, rfl⟩ := e; omega
          have hkk3 : (min torn (x.bytes.length : Int)).toNat = kk := by omega
          have HKK := Lib.hid hkk
          have HKT : Hid (x.bytes.take torn.toNat = x.bytes.take kk) := by
            show _ = _
            by_cases htk : torn ≤ x.bytes.length
            · congr 1; omega
            · rw [List.take_of_length_le (by omega), List.take_of_length_le (by omega)]
          have HKL := Lib.hid hkl
          clear hW hbW hszW hbx hbxW hrd hbxn hkk hkl
          go_wp2
          go_region_law (first | (go_simp; go_at_call 42; rw [← HW.out]; refine HBE.out.mono ?_; rintro e w1 ⟨d0, d1, d2, d3, d4, rfl, hth1, hb1⟩; have hends := hth1.ends; simp only at hends; obtain ⟨rfl, ⟨fn2, ca2, rfl⟩, ⟨A3, n3, cp3, rfl⟩, rfl, rfl⟩ := hends; obtain ⟨z0, z1, z2, z3, z4, zf⟩ := blk5 (hb1.deferred HBX.out)))
          all_goals
            have HTH1 := Lib.hid hth1
            have HB1 := Lib.hid hb1
            have ZB : Hid (Blk w1 wr.heap.size 93 #[.int .i64 x.file, .func fn1 #[] ca1, .slice A2 x.bytes.length cp2, .int .i64 x.many, .bool false]) := hb1.deferred HBX.out
            clear hth1 hb1 z0 z1 z2 z3 z4 zf hS0 hmn hkk1 hkk2 hkk3
            go_wp2
            obtain ⟨W2, hW2⟩ : ∃ W2, W2 = (((((w1.setCell ⟨wr.heap.size, 0, none⟩ (.int .i64 x.file)).setCell ⟨wr.heap.size, 1, none⟩ (.func fn2 #[] ca2)).setCell ⟨wr.heap.size, 2, none⟩ (.slice A3 n3 cp3)).setCell ⟨wr.heap.size, 3, none⟩ (.int .i64 0)).setCell ⟨wr.heap.size, 4, none⟩ (.bool false)) := ⟨_, rfl⟩
            rw [← hW2]
            obtain ⟨k1, k2, k3⟩ := stored5 ZB.out (.int .i64 x.file) (.func fn2 #[] ca2) (.slice A3 n3 cp3) (.int .i64 0) (.bool false)
            rw [← hW2] at k1 k2 k3
            have hb2 : Bel wr W2.drew := (k3 wr (HBW.out.then_ HB1.out) (Nat.le_refl _)).drew
            have hX2 := (HXK.out.bel hb2).mono (fp' := fun b => fpk b ∨ wr.heap.size ≤ b) (fun b h => .inl h)
            have hth2 := (HTH1.out.kept (w' := W2.drew) (fun b hb hl => by have := HSZ.out; exact k2 b (by omega)) (fun b h => (.inr (by have := HSZ.out; omega) : fpk b ∨ wr.heap.size ≤ b)))
            have HDN := Lib.hid (done_any hX2.files hth2 (by have := HLK.out; simp; unfold manyB; omega))
            have hS2 : W2.drew.cell? ⟨bd, 0, none⟩ = some (.map (some w.heap.size)) ∧ W2.drew.cell? ⟨wr.heap.size, 0, none⟩ = some (.int .i64 x.file) ∧ W2.drew.cell? ⟨wr.heap.size, 1, none⟩ = some (.func fn2 #[] ca2) ∧ W2.drew.cell? ⟨wr.heap.size, 2, none⟩ = some (.slice A3 n3 cp3) ∧ W2.drew.cell? ⟨wr.heap.size, 3, none⟩ = some (.int .i64 0) ∧ W2.drew.cell? ⟨wr.heap.size, 4, none⟩ = some (.bool false) := by
              obtain ⟨y0, y1, y2, y3, y4, -⟩ := blk5 k1
              exact ⟨hb2.c r0, y0, y1, y2, y3, y4⟩
            have HMF := Lib.hid hX2.files.block
            have HBB2 := Lib.hid hb2
            have HX2 := Lib.hid hX2
            clear hW2 hb2 hX2 hth2 k1 k2 k3
            go_region_held3 (fun w' => w'.cell? ⟨bd, 0, none⟩ = some (.map (some w.heap.size)) ∧ w'.cell? ⟨wr.heap.size, 0, none⟩ = some (.int .i64 x.file) ∧ w'.cell? ⟨wr.heap.size, 1, none⟩ = some (.func fn2 #[] ca2) ∧ w'.cell? ⟨wr.heap.size, 2, none⟩ = some (.slice A3 n3 cp3) ∧ w'.cell? ⟨wr.heap.size, 3, none⟩ = some (.int .i64 0) ∧ w'.cell? ⟨wr.heap.size, 4, none⟩ = some (.bool false))
              (first | exact hS2 | exact keepB6 (by assumption) (by assumption))
              ((go_at_call 43; refine HDN.out.mono ?_; rintro e w3 ⟨rfl, hF3, hg3⟩; have hg3' := keepM hg3 HMF.out))
            have HF3 := Lib.hid hF3
            have HG3 := Lib.hid hg3
            clear hF3 hg3 hg3' hS2
            go_wp2
            go_roundw
            case rel => exact ⟨k + 1, _, by go_num, by omega, crash_did HS1.out (by unfold crashF; rw [if_neg (by omega), if_pos ⟨rfl, HCU.out⟩, HKT.out]) HX2.out HF3.out HG3.out, HO.out.trans ((Opp.wider (Opp.of_bel HBB2.out)).trans (opp_did HX2.out HG3.out))⟩
            case measure => simp [intOf]; omega
      · have hke : ((k : Int) == keep) = false := beq_eq_false_iff_ne.2 (by omega)
        have hkl : decide ((k : Int) < keep) = false := by simp; omega
        go_wp2
        go_roundw
        case rel => exact ⟨k + 1, fpk, by go_num, by omega, crash_not HS1.out (by unfold crashF; rw [if_neg (by omega), if_neg (by omega)]) (HXK.out.bel ((Bel.refl wr).alloc _)), HO.out.trans (Opp.of_bel ((Bel.refl wr).alloc _))⟩
        case measure => simp [intOf]; omega
    · obtain rfl : k = m.loose.length := by omega
      have HSY := Lib.hid (sync_any hX.is HR.out)
      have HO := Lib.hid hO
      clear hX hO
      go_wp2_with fail
      refine HSY.out.mono ?_
      rintro e w1 ⟨rfl, fp1, hD1, hO1⟩
      have HD1 := Lib.hid hD1
      have HO1 := Lib.hid hO1
      clear hD1 hO1
      go_wp2
      go_ret
      exact ⟨rfl, fp1, HD1.out, HO.out.trans HO1.out⟩
end Go.Proofs.YtiajggmnfaidjaaGreatDoor
