/-
  The plain law of a log behind crashes: what is left is the first ones of its records, and perhaps a first part of the next.
-/
import Derived.Test.YtiajggmnfaidjaaGreatDoorLo
set_option linter.unusedVariables false
set_option linter.unusedSimpArgs false
set_option linter.unusedVariables false
set_option linter.unusedSimpArgs false
namespace Go.Proofs.YtiajggmnfaidjaaGreatDoor
open Go.RowKit

theorem firstL_torn (r : List UInt8) (h : r.length ≤ 60000) (k : Nat) (hk : k < (recN r).length) : firstL ((recN r).take k) = none := by
  have hl := recN_length r
  have hlen : ((recN r).take k).length = k := by rw [List.length_take]; omega
  unfold firstL
  by_cases h8 : k < 8
  · rw [if_pos (by omega)]
  · have e : ((recN r).take k).take 4 = beN r.length 4 := by
      rw [List.take_take, Nat.min_eq_left (by omega)]
      unfold recN
      rw [List.append_assoc]
      exact take4 _ _
    rw [if_neg (by omega), e, beN_num _ _ (by omega), hlen, if_pos (.inr (by omega))]
/-- File 7 alone has bytes. -/
def only (s : List UInt8) : Int → List UInt8 := setF (fun _ => []) 7 s
theorem only_at (s : List UInt8) : only s 7 = s := by simp [only, setF]
theorem only_le (s : List UInt8) (k : Int) : (only s k).length ≤ s.length := by
  unfold only setF
  split
  · exact Nat.le_refl _
  · simp
theorem only_done (s : List UInt8) (x : Th) (hx : x.file = 7) : doneF (only s) x = only (x.does s) := by
  funext k
  unfold doneF
  rw [hx, only_at]
  unfold only setF
  split <;> rfl
theorem tot_only (s : List UInt8) : tot (only s) = s.length := by
  have : tot (only s) = sumTo (fun k => if k = 7 then (s.length : Int) else (fun _ => 0) k) 64 := sumTo_congr 64 fun k _ => by
    show ((only s k).length : Int) = _
    unfold only setF
    by_cases hk : (k : Int) = 7
    · rw [if_pos hk, if_pos hk]
    · rw [if_neg hk, if_neg hk]; rfl
  rw [this, sumTo_one (fun _ => 0) 7 s.length rfl, sumTo_zero]
  simp
theorem recs_short (H : List (List UInt8)) (hH : ∀ x ∈ H, x.length ≤ 60) : (recsN H).length ≤ 68 * H.length := by
  induction H with
  | nil => simp [recsN]
  | cons x H ih =>
    have e : (recsN (x :: H)).length = (x.length + 8) + (recsN H).length := by
      show ((x :: H).flatMap recN).length = _
      rw [List.flatMap_cons, List.length_append, recN_length]
      rfl
    have h1 := hH x (by simp)
    have h2 := ih (fun y hy => hH y (by simp [hy]))
    rw [e, List.length_cons]
    omega
theorem recs_take_short (H : List (List UInt8)) (hH : ∀ x ∈ H, x.length ≤ 60) (i : Nat) : (recsN (H.take i)).length ≤ 68 * H.length := Nat.le_trans (recs_len H i) (recs_short H hH)
theorem recs_next {H : List (List UInt8)} {i : Nat} {x : List UInt8} (h : H[i]? = some x) : recsN (H.take (i + 1)) = recsN (H.take i) ++ recN x := by
  rw [List.take_add_one, h]
  exact recsN_snoc _ _
/-- What a file may be found with: the first ones, from some number on, and a rest that is no record. -/
def Left (H : List (List UInt8)) (lo hi : Nat) (f : Int → List UInt8) : Prop := ∃ q t, lo ≤ q ∧ q ≤ hi ∧ t.length ≤ 68 ∧ f = only (recsN (H.take q) ++ t) ∧ firstL t = none
theorem Left.up {H : List (List UInt8)} {lo hi hi' : Nat} {f : Int → List UInt8} (h : Left H lo hi f) (hh : hi ≤ hi') : Left H lo hi' f := by
  obtain ⟨q, t, a, b, c⟩ := h
  exact ⟨q, t, a, Nat.le_trans b hh, c⟩
/-- How the disk stands while records are put into the log. -/
structure Stand (m : DM) (H : List (List UInt8)) (i lo : Nat) : Prop where
  room : m.room = 5000
  low : lo ≤ i
  files : m.files = only (recsN (H.take i))
  syn : ∀ k, (m.synced k).length ≤ 5000
  few : m.loose.length ≤ i + 1
  small : ∀ x ∈ m.loose, x.bytes.length ≤ 68
  full : ∀ keep torn : Int, (m.loose.length : Int) ≤ keep → crashTo m keep torn m.loose.length = m.files
  crash : ∀ keep torn : Int, 0 ≤ keep → 0 ≤ torn → Left H lo i (crashTo m keep torn m.loose.length)
theorem crash_len (m : DM) (keep torn : Int) (hs : ∀ k, (m.synced k).length ≤ 5000) (hx : ∀ x ∈ m.loose, x.bytes.length ≤ 68) : ∀ (n : Nat) (k : Int), (crashTo m keep torn n k).length ≤ 5000 + 68 * n
  | 0, k => by have := hs k; simpa [crashTo] using this
  | n + 1, k => by
    have ih := crash_len m keep torn hs hx n
    have hdone : ∀ x : Th, x.bytes.length ≤ 68 → (doneF (crashTo m keep torn n) x k).length ≤ 5000 + 68 * (n + 1) := fun x hx => by
      unfold doneF setF Th.does
      split
      · have := ih x.file
        split <;> simp <;> omega
      · have := ih k; omega
    cases hxk : m.loose[n]? with
    | some x =>
      rw [crashTo_succ hxk]
      have h1 := hx x (List.mem_of_getElem? hxk)
      unfold crashF
      split
      · exact hdone x h1
      · split
        · exact hdone _ (by simp; omega)
        · have := ih k; omega
    | none =>
      have e : crashTo m keep torn (n + 1) = crashTo m keep torn n := by simp [crashTo, hxk]
      rw [e]
      have := ih k
      omega
theorem crash_same (m m' : DM) (keep torn : Int) (hs : m'.synced = m.synced) (x : Th) (hl : m'.loose = m.loose ++ [x]) : ∀ n, n ≤ m.loose.length → crashTo m' keep torn n = crashTo m keep torn n
  | 0, _ => hs
  | n + 1, hn => by
    rw [crashTo, crashTo, crash_same m m' keep torn hs x hl n (by omega), hl, List.getElem?_append_left (by omega)]
theorem crash_more (m m' : DM) (keep torn : Int) (hs : m'.synced = m.synced) (x : Th) (hl : m'.loose = m.loose ++ [x]) :
    crashTo m' keep torn m'.loose.length = crashF keep torn (crashTo m keep torn m.loose.length) m.loose.length x := by
  have h1 : m'.loose.length = m.loose.length + 1 := by rw [hl]; simp
  rw [h1, crashTo_succ (x := x) (by rw [hl]; simp), crash_same m m' keep torn hs x hl _ (Nat.le_refl _)]
theorem Stand.fit {m : DM} {H : List (List UInt8)} {i lo : Nat} (h : Stand m H i lo) (hH : ∀ x ∈ H, x.length ≤ 60) (hl : H.length ≤ 60) (hi : i ≤ H.length) : Fit m := by
  have h1 := recs_take_short H hH i
  have h2 := h.few
  refine ⟨by rw [h.room]; decide, by rw [h.room]; decide, ?_, by omega⟩
  rw [h.files, tot_only, h.room]
  omega
theorem Stand.hlen {m : DM} {H : List (List UInt8)} {i lo : Nat} (h : Stand m H i lo) (hl : i ≤ 60) (keep torn : Int) : ∀ (k : Nat) (x : Th), m.loose[k]? = some x → ((crashTo m keep torn k) x.file).length + x.bytes.length ≤ 1000000000 := fun k x hk => by
  have h1 := crash_len m keep torn h.syn h.small k x.file
  have h2 := h.small x (List.mem_of_getElem? hk)
  have h3 := h.few
  have h4 := (List.getElem?_eq_some_iff.1 hk).1
  omega
/-- A record more. -/
theorem Stand.append {m : DM} {H : List (List UInt8)} {i lo : Nat} (h : Stand m H i lo) (hH : ∀ x ∈ H, x.length ≤ 60) (hl : H.length ≤ 60) {x : List UInt8} (hx : H[i]? = some x) :
    (m.append 7 (recN x)).2 = 0 ∧ Stand (m.append 7 (recN x)).1 H (i + 1) lo := by
  have hi := (List.getElem?_eq_some_iff.1 hx).1
  have hx60 := hH x (List.mem_of_getElem? hx)
  have h1 := recs_take_short H hH i
  have h2 := recN_length x
  have hr : ¬ m.room - tot m.files < (recN x).length := by rw [h.files, tot_only, h.room]; omega
  have e : m.append 7 (recN x) = ({ m with files := doneF m.files ⟨7, recN x, 0, false⟩, loose := m.loose ++ [⟨7, recN x, 0, false⟩] }, 0) := by
    unfold DM.append
    rw [if_neg (by decide), if_neg hr]
  rw [e]
  refine ⟨rfl, ?_⟩
  have hf : doneF m.files ⟨7, recN x, 0, false⟩ = only (recsN (H.take (i + 1))) := by
    rw [h.files, only_done _ _ rfl, recs_next hx]
    rfl
  have hmore := fun keep torn => crash_more m { m with files := doneF m.files ⟨7, recN x, 0, false⟩, loose := m.loose ++ [⟨7, recN x, 0, false⟩] } keep torn rfl _ rfl
  refine ⟨h.room, Nat.le_succ_of_le h.low, hf, h.syn, ?_, ?_, ?_, ?_⟩
  · have := h.few
    simp
    omega
  · intro y hy
    rcases List.mem_append.1 hy with hy | hy
    · exact h.small y hy
    · rw [List.mem_singleton.1 hy]; show (recN x).length ≤ 68; omega
  · intro keep torn hk
    have hk' : (m.loose.length : Int) + 1 ≤ keep := by simpa using hk
    rw [hmore, h.full keep torn (by omega)]
    unfold crashF
    rw [if_pos (by omega)]
  · intro keep torn hk0 ht0
    rw [hmore]
    unfold crashF
    by_cases hk : (m.loose.length : Int) < keep
    · rw [if_pos hk, h.full keep torn (by omega)]
      exact ⟨i + 1, [], Nat.le_succ_of_le h.low, Nat.le_refl _, by simp, by rw [hf]; simp, rfl⟩
    · rw [if_neg hk]
      by_cases hke : (m.loose.length : Int) = keep
      · rw [if_pos ⟨hke, rfl⟩, h.full keep torn (by omega), h.files, only_done _ _ rfl]
        by_cases htl : torn.toNat < (recN x).length
        · exact ⟨i, (recN x).take torn.toNat, h.low, Nat.le_succ _, by rw [List.length_take]; omega, rfl, firstL_torn x (by omega) _ htl⟩
        · refine ⟨i + 1, [], Nat.le_succ_of_le h.low, Nat.le_refl _, by simp, ?_, rfl⟩
          show only (recsN (H.take i) ++ (recN x).take torn.toNat) = _
          rw [show (recN x).take torn.toNat = recN x from List.take_of_length_le (by omega), recs_next hx, List.append_nil]
      · rw [if_neg (fun h => hke h.1)]
        exact (h.crash keep torn hk0 ht0).up (Nat.le_succ _)
/-- All is kept. -/
theorem Stand.sync {m : DM} {H : List (List UInt8)} {i lo : Nat} (h : Stand m H i lo) (hH : ∀ x ∈ H, x.length ≤ 60) (hl : H.length ≤ 60) : Stand m.sync H i i := by
  have h1 := recs_take_short H hH i
  refine ⟨h.room, Nat.le_refl _, h.files, ?_, by simp [DM.sync], by simp [DM.sync], fun _ _ _ => rfl, fun _ _ _ _ => ⟨i, [], Nat.le_refl _, Nat.le_refl _, by simp, ?_, rfl⟩⟩
  · intro k
    show (m.files k).length ≤ 5000
    rw [h.files]
    have := only_le (recsN (H.take i)) k
    omega
  · show m.files = _
    rw [h.files, List.append_nil]
theorem stand_new (H : List (List UInt8)) : Stand (DM.new 5000) H 0 0 := by
  have e : (fun _ => [] : Int → List UInt8) = only (recsN (H.take 0)) := by
    funext k
    unfold only setF
    split <;> rfl
  refine ⟨rfl, Nat.le_refl _, e, fun _ => by simp [DM.new], by simp [DM.new], by simp [DM.new], fun _ _ _ => rfl, fun _ _ _ _ => ⟨0, [], Nat.le_refl _, Nat.le_refl _, by simp, ?_, rfl⟩⟩
  rw [List.append_nil]
  exact e
/-- Behind a crash, and the log opened anew. -/
theorem Stand.crashed {m : DM} {H : List (List UInt8)} {i lo : Nat} (h : Stand m H i lo) (hH : ∀ x ∈ H, x.length ≤ 60) (hl : H.length ≤ 60) (hi : i ≤ H.length) (keep torn : Int) (hk : 0 ≤ keep) (ht : 0 ≤ torn) :
    ∃ q t, lo ≤ q ∧ q ≤ i ∧ firstL t = none ∧ (m.crash keep torn).files 7 = recsN (H.take q) ++ t ∧ Fit (m.crash keep torn) ∧ Fit ((m.crash keep torn).opened 7 (recsN (H.take q)).length) ∧ ((m.crash keep torn).opened 7 (recsN (H.take q)).length).files 7 = recsN (H.take q) ∧
      ∀ H2 : List (List UInt8), H2.take q = H.take q → Stand ((m.crash keep torn).opened 7 (recsN (H.take q)).length) H2 q q := by
  obtain ⟨q, t, hq1, hq2, ht68, hf, hft⟩ := h.crash keep torn hk ht
  have hq := recs_take_short H hH q
  have hfiles : (m.crash keep torn).files = only (recsN (H.take q) ++ t) := hf
  have hsyn : (m.crash keep torn).synced = only (recsN (H.take q) ++ t) := hf
  have hloose : (m.crash keep torn).loose = [] := rfl
  have hroom : (m.crash keep torn).room = 5000 := h.room
  generalize m.crash keep torn = M at *
  have hln : (recsN (H.take q) ++ t).length = (recsN (H.take q)).length + t.length := List.length_append
  have hfit : Fit M := ⟨by rw [hroom]; decide, by rw [hroom]; decide, by rw [hfiles, tot_only, hroom]; omega, by rw [hloose]; simp⟩
  have hs5 : ∀ k, (M.synced k).length ≤ 5000 := fun k => by rw [hsyn]; have := only_le (recsN (H.take q) ++ t) k; omega
  refine ⟨q, t, hq1, hq2, hft, by rw [hfiles, only_at], hfit, ?_⟩
  unfold DM.opened
  rw [hfiles, only_at]
  by_cases ht0 : t = []
  · subst ht0
    rw [if_pos (by simp)]
    refine ⟨hfit, by rw [hfiles, only_at, List.append_nil], fun H2 hH2 => ⟨hroom, Nat.le_refl _, by rw [hfiles, hH2, List.append_nil], hs5, by rw [hloose]; simp, by rw [hloose]; simp, fun _ _ _ => ?_, fun _ _ _ _ => ⟨q, [], Nat.le_refl _, Nat.le_refl _, by simp, ?_, rfl⟩⟩⟩
    · rw [hloose, hfiles]; exact hsyn
    · rw [hloose, hH2]; exact hsyn
  · have htl : 0 < t.length := List.length_pos_iff.2 ht0
    rw [if_neg (by omega)]
    have e : M.cut 7 (recsN (H.take q)).length = ({ M with files := doneF M.files ⟨7, [], (recsN (H.take q)).length, true⟩, loose := M.loose ++ [⟨7, [], (recsN (H.take q)).length, true⟩] }, 0) := by
      unfold DM.cut
      rw [if_neg (by omega), if_neg (by rw [hfiles, only_at]; omega)]
    rw [e]
    have hd : doneF M.files ⟨7, [], (recsN (H.take q)).length, true⟩ = only (recsN (H.take q)) := by
      rw [hfiles, only_done _ _ rfl]
      show only ((recsN (H.take q) ++ t).take _) = _
      rw [List.take_left' (by simp)]
    have hmore := fun keep torn => crash_more M { M with files := doneF M.files ⟨7, [], (recsN (H.take q)).length, true⟩, loose := M.loose ++ [⟨7, [], (recsN (H.take q)).length, true⟩] } keep torn rfl _ rfl
    have h0 : ∀ keep torn, crashTo M keep torn M.loose.length = only (recsN (H.take q) ++ t) := fun keep torn => by rw [hloose]; exact hsyn
    have hL0 : (M.loose.length : Int) = 0 := by rw [hloose]; rfl
    refine ⟨⟨?_, ?_, ?_, by simp [hloose]⟩, ?_, fun H2 hH2 => ⟨hroom, Nat.le_refl _, hd.trans (by rw [hH2]), hs5, by simp [hloose], ?_, ?_, ?_⟩⟩
    · show 0 < M.room; rw [hroom]; decide
    · show M.room ≤ _; rw [hroom]; decide
    · show tot (doneF M.files ⟨7, [], (recsN (H.take q)).length, true⟩) ≤ M.room
      rw [hd, tot_only, hroom]
      omega
    · show doneF M.files ⟨7, [], (recsN (H.take q)).length, true⟩ 7 = _
      rw [hd, only_at]
    · intro x hx
      rw [hloose] at hx
      rw [List.mem_singleton.1 hx]
      simp
    · intro keep torn hk
      have hk' : 1 ≤ keep := by simpa [hloose] using hk
      rw [hmore, h0]
      unfold crashF
      rw [if_pos (by omega), hfiles]
    · intro keep torn hk0 ht0'
      rw [hmore, h0]
      unfold crashF
      by_cases hk : (M.loose.length : Int) < keep
      · rw [if_pos hk]
        refine ⟨q, [], Nat.le_refl _, Nat.le_refl _, by simp, ?_, rfl⟩
        rw [← hfiles, hd, hH2, List.append_nil]
      · rw [if_neg hk, if_neg (fun h => by cases h.2)]
        exact ⟨q, t, Nat.le_refl _, Nat.le_refl _, ht68, by rw [hH2], hft⟩
end Go.Proofs.YtiajggmnfaidjaaGreatDoor
