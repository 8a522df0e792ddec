/-
  DiskNone: for every call the law returns true, and the argument reads as it read before; the errors package's handle of the type error is laid, which the given tie ties to the program's text.
-/
import Derived.Test.YthmigmiojifnkaaDoorDzs0
import Derived.Test.YthmigmiojifnkaaDoorDzs1
import Derived.Test.YthmigmiojifnkaaDoorDzs2
import Derived.Test.YthmigmiojifnkaaDoorDzn0
import Derived.Test.YthmigmiojifnkaaDoorDzn1
import Derived.Test.YthmigmiojifnkaaDoorDzn2
import Derived.Test.YthmigmiojifnkaaDoorAgg
import Derived.Test.YthmigmiojifnkaaDoorTied
import Derived.Test.YthmigmiojifnkaaDoorCards
import Derived.Test.YthmigmiojifnkaaDoorTie
import Derived.SevenTiedAt
set_option linter.unusedVariables false
set_option linter.unusedSimpArgs false
set_option linter.unusedVariables false
set_option linter.unusedSimpArgs false
namespace Go.Proofs.YthmigmiojifnkaaDoor.diskNone
open Go.ChangeShapes Go.WideShapes Go.ChangeAt Go.RowKit Go.Joins Go.Deep

theorem none_any_ (what file n torn : Int) (A : Option Addr) (nb cb : Nat) (hm : nb ≤ maxLen) (w : World) (hg : ErrType w) :
    Calls Tryd.prog 7 #[.agg #[.int .i64 what, .int .i64 file, .int .i64 n, .int .i64 torn, .slice A nb cb]] w fun e w' => e = .returned (.bool true) ∧ Bel w w' := by
  by_cases h : nb ≤ 60
  · by_cases hp : (n.tmod 2 == 0) = true
    · by_cases h1 : 0 ≤ file
      · by_cases h2 : file < 64
        · exact none_few_s0 what file n torn A nb cb h hm hp h1 h2 w hg
        · exact none_few_s1 what file n torn A nb cb h hm hp h1 h2 w hg
      · exact none_few_s2 what file n torn A nb cb h hm hp h1 w hg
    · rw [Bool.not_eq_true] at hp
      by_cases h1 : 0 ≤ file
      · by_cases h2 : file < 64
        · exact none_few_n0 what file n torn A nb cb h hm hp h1 h2 w hg
        · exact none_few_n1 what file n torn A nb cb h hm hp h1 h2 w hg
      · exact none_few_n2 what file n torn A nb cb h hm hp h1 w hg
  · exact none_many what file n torn A nb cb (by omega) hm w hg

set_option maxRecDepth 100000 in
set_option maxHeartbeats 1000000 in
theorem lifted (os : Os) (started : os.Started) (H : Type) (enc : TypeId × Value → H) :
    ReturnsInHanded {} Tryd.checked os 7 .any (fun w args => (Rows.diskNoneSpec.pre enc Tryd.prog Tryd.f7 [] false w args ∧ laidMetH Tryd.prog laidList w) ∧ sizedMet enc Tryd.prog Tryd.f7 (OpenSpec.ofChange Rows.diskNoneSpec) false w args)
      (Rows.diskNoneSpec.post enc Tryd.prog Tryd.f7 false true false false) := by
  refine returnsInHanded_of_change_and (C := Tryd.checked) (X := fun w _ => laidMetH Tryd.prog laidList w) (fun _ _ _ hh h => h.of_heap hh) own started (by kernel_rfl) Tryd.func7
    (ChangeSpec.witness_at (enc := enc) (C := Tryd.checked) (os := os) (X := fun w _ => laidMetH Tryd.prog laidList w) false (laidWorld os) #[.agg #[.int .i64 0, .int .i64 0, .int .i64 0, .int .i64 0, .slice none 0 0]] 8 rfl (by kernel_rfl) (by kernel_rfl) (by kernel_rfl) (by kernel_rfl) (by kernel_rfl) (laidWorld_met os _)) ?_
  intro W base args ds gs before hval0 hW _ _ hL _
  have hval : ∀ (j : Nat) t v, Tryd.f7.params[j]? = some t → args[j]? = some v → Value.okWide Tryd.prog W .any base t v := hval0
  have hW' := hW
  obtain ⟨p, q, hA0, hV, rfl, hfz, hnd⟩ := hW
  have hA : DataW.TrodAll enc Tryd.prog W 0 (fun _ => true) true Tryd.f7.params.toList args.toList ds p := hA0
  have hg := handle_of_laid hL
  rw [Tryd.params7] at hA hval
  obtain ⟨v0, vs0, d0, ds0, p0, q0, hargs, rfl, rfl, h0, r0⟩ := trodAll_cons hA
  obtain ⟨rfl, rfl, rfl⟩ := trodAll_nil r0
  obtain rfl : args = #[v0] := by cases args; simp_all
  obtain ⟨rfl, rfl⟩ := trodVars_none hV
  obtain ⟨cs, rfl, hcl, m, hcs⟩ := open_cells Tryd.underlying33 (by kernel_rfl) (by kernel_rfl) (hval 0 33 v0 rfl rfl) h0
  obtain ⟨u0, u1, u2, u3, u4, rfl⟩ := list5 hcl
  obtain ⟨y0, e0⟩ := hcs 0 _ _ rfl rfl
  obtain ⟨y1, e1⟩ := hcs 1 _ _ rfl rfl
  obtain ⟨y2, e2⟩ := hcs 2 _ _ rfl rfl
  obtain ⟨y3, e3⟩ := hcs 3 _ _ rfl rfl
  obtain ⟨y4, e4⟩ := hcs 4 _ _ rfl rfl
  obtain ⟨x0, k0, -, -⟩ := DataW.trod_int Tryd.underlying3 e0
  obtain ⟨x1, k1, -, -⟩ := DataW.trod_int Tryd.underlying3 e1
  obtain ⟨x2, k2, -, -⟩ := DataW.trod_int Tryd.underlying3 e2
  obtain ⟨x3, k3, -, -⟩ := DataW.trod_int Tryd.underlying3 e3
  obtain ⟨A, n, cap, k4, hn, hcap, -⟩ := slice_read (sz := 1) Tryd.underlying31 (by kernel_rfl) (by omega) e4
  simp only [List.cons.injEq, and_true] at k0 k1 k2 k3 k4
  subst k0 k1 k2 k3 k4
  clear hA0 hval0
  refine (none_any_ x0 x1 x2 x3 A n cap (by omega) W hg).mono fun e W' ⟨he, hb⟩ => ?_
  subst he
  exact ⟨_, rfl, law_post laidOut (by kernel_rfl) (by kernel_rfl) Tryd.underlying4 rfl hW' rfl hb⟩

theorem row_holds : Rows.DiskNoneSaid :=
  OpenClaim.holds_of_wide 7 Tryd.f7 rfl rfl rfl rfl rfl rfl rfl ⟨rfl, rfl, rfl, rfl, rfl⟩ rfl rfl rfl rfl rfl (by kernel_rfl) Tryd.func7 (by kernel_rfl)
    (of_decide_eq_true (by kernel_rfl)) (by unfold Func.isWrapper; first | (rw [if_pos (by decide +kernel)]; kernel_rfl) | (rw [if_neg (by decide +kernel)]; exact ⟨rfl, rfl⟩))
    (fun os started H enc _ => lifted os started H enc)

theorem proved : Rows.DiskNoneCardSaid :=
  Claim7.holds_tied_plain_at .later [] [.handle] true Rows.diskNoneCard.stood.harness true
    row_holds (fun _ h => by cases h) (by kernel_rfl) (fun _ h => by cases h) diskNone_row_tie rfl ⟨rfl, rfl⟩ (by kernel_rfl) rfl
    (fun f fn hf hfn => by
      obtain rfl : f = 7 := Option.some.inj ((show Tryd.prog.funcNamed Rows.diskNoneRow.func = some 7 by kernel_rfl).symm.trans hf) |>.symm
      obtain rfl : fn = Tryd.f7 := (Option.some.inj (Tryd.func7.symm.trans hfn)).symm
      exact ⟨by kernel_rfl, fun j t ht => by
        rw [Tryd.params7] at ht
        exact param_in (by kernel_rfl) ht⟩)
    (by kernel_rfl)
#print axioms proved
end Go.Proofs.YthmigmiojifnkaaDoor.diskNone
