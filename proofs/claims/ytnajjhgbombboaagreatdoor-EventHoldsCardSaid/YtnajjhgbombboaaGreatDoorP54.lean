/-
  Texts behind the statement: part 54.
-/
import Derived.Test.YtnajjhgbombboaaGreatDoorP40
import Derived.Test.YtnajjhgbombboaaGreatDoorP42
import Derived.Test.YtnajjhgbombboaaGreatDoorP43
import Derived.Test.YtnajjhgbombboaaGreatDoorP44
set_option linter.unusedVariables false
set_option linter.unusedSimpArgs false
namespace Go.Proofs.YtnajjhgbombboaaGreatDoor
section
open Go.RowKit Go.Shelf Go.Lib
attribute [local go_sem] Oper.semAt_some
theorem packR_cases (l:List Ev):(packR l).2=3 ∨ (packR l).2=2 ∨ ((packR l).2=0∧(packR l).1=encEs l∧l.length≤100 ∧ ∀ x ∈ l,rightE x=true):=by
 unfold packR
 by_cases h : 100<l.length
 ·rw [if_pos h];exact .inl rfl
 ·rw [if_neg h]
  by_cases h2:l.all rightE=true
  ·rw [if_pos h2];exact .inr (.inr ⟨rfl,rfl,by omega,List.all_eq_true.1 h2⟩)
  ·rw [if_neg h2];exact .inr (.inl rfl)
theorem encEs_inj {a b:List Ev} (ha : ∀ x ∈ a,rightE x=true∧x.Wf) (hb : ∀ x ∈ b,rightE x=true∧x.Wf) (la:a.length≤100) (lb:b.length≤100) (h:encEs a=encEs b):a=b:=by
 have:=unpack_enc ha la
 rw [h,unpack_enc hb lb] at this
 exact (Option.some.inj this).symm
set_option maxRecDepth 100000 in
set_option maxHeartbeats 16000000 in
theorem l8Holds_any (va vb:Value) (a b:List Ev) (w:World) (hg:ErrType w) (ha:EventsAt w va a) (hb:EventsAt w vb b) (ia : ∀ x ∈ a,x.In) (ib : ∀ x ∈ b,x.In):Calls Tryz.prog 7 #[va,vb] w fun en w'=>en = .returned (.bool true)∧Bel w w':=by
 have HA1:=Lib.hid (l8all_any va a 4 (by omega) w ha ia)
 have HA2:=Lib.hid (fun V (hV:Bel w V)=>l8all_any vb b 4 (by omega) V (hb.bel hV) ib)
 have HW:=Lib.hid (fun V (hV:Bel w V)=>l8works_any V (hg.bel hV))
 have HP1:=Lib.hid (fun V (hV:Bel w V)=>epack_any va a V (hg.bel hV) (ha.bel hV) (fun x hx=>(ia x hx).wf))
 have HP2:=Lib.hid (fun V (hV:Bel w V)=>epack_any vb b V (hg.bel hV) (hb.bel hV) (fun x hx=>(ib x hx).wf))
 have HUN:=Lib.hid (fun v (s:List UInt8) (hs:s.length≤1000000) V (hV:Bel w V) (hv:BsAt V v s)=>eunpack_any v s hs V (hg.bel hV) hv)
 have HSM:=Lib.hid (fun v V (hV:Bel w V) (hv:EventsAt V v a)=>r8SameAll_any v va a a V hv (ha.bel hV))
 have HS2:=Lib.hid (fun V (hV:Bel w V)=>r8SameAll_any va vb a b V (ha.bel hV) (hb.bel hV))
 rw [show sameEs a a=true by unfold sameEs;simp] at HSM
 have hca:=packR_cases a
 have hcb:=packR_cases b
 have wa : ∀ x ∈ a,x.Wf:=fun x hx=>(ia x hx).wf
 have wb : ∀ x ∈ b,x.Wf:=fun x hx=>(ib x hx).wf
 have HUA:Hid ((packR a).2=0→(packR a).1.length≤1000000∧unpackE (packR a).1=some a):=Lib.hid (fun h=>by
  rcases hca with h3 | h3 | ⟨h3,e,l,r⟩
  ·omega
  ·omega
  ·have hx : ∀ x ∈ a,rightE x=true∧x.Wf:=fun x hx=>⟨r x hx,wa x hx⟩
   rw [e]
   exact ⟨by have:=encEs_len hx l;omega,unpack_enc hx l⟩)
 have HEQ:Hid ((packR a).2=0→(packR b).2=0→decide ((packR a).1=(packR b).1)=sameEs a b):=Lib.hid (fun h1 h2=>by
  rcases hca with h3 | h3 | ⟨-,e,l,r⟩
  ·omega
  ·omega
  ·rcases hcb with h3 | h3 | ⟨-,e',l',r'⟩
   ·omega
   ·omega
   ·rw [e,e']
    unfold sameEs
    exact decide_eq_decide.2 ⟨fun h=>encEs_inj (fun x hx=>⟨r x hx,wa x hx⟩) (fun x hx=>⟨r' x hx,wb x hx⟩) l l' h,fun h=>by rw [h]⟩)
 have hna:(packR a).2=3 ∨ (packR a).2=2 ∨ (packR a).2=0:=by rcases hca with h | h | h;exact .inl h;exact .inr (.inl h);exact .inr (.inr h.1)
 have hnb:(packR b).2=3 ∨ (packR b).2=2 ∨ (packR b).2=0:=by rcases hcb with h | h | h;exact .inl h;exact .inr (.inl h);exact .inr (.inr h.1)
 clear hca hcb
 generalize sameEs a b=SS at HS2 HEQ
 generalize packR a=PA at HP1 HUA HEQ hna
 generalize packR b=PB at HP2 HEQ hnb
 obtain ⟨sa,na⟩:=PA
 obtain ⟨sb,nb⟩:=PB
 dsimp only at HP1 HP2 HUA HEQ hna hnb
 obtain ⟨Aa,ca,rfl,-⟩:=id ha
 obtain ⟨Ab,cb,rfl,-⟩:=id hb
 clear hg ha hb ia ib wa wb
 go_enter Tryz.func7,Tryz.ntmps7
 go_wp2_with fail
 refine HA1.out.mono ?_
 rintro e1 w1 ⟨f1,rfl,-,hb1⟩
 have HB1:=Lib.hid hb1
 clear hb1 HA1
 cases f1 with
 | false =>
   clear HA2 HP1 HP2 HUN HSM HS2 HUA HEQ hna hnb
   go_wp2_with (go_at_call 10;refine (HW.out _ HB1.out).mono ?_;rintro e9 w9 ⟨rfl,hb9⟩)
   go_ret
   exact ⟨rfl,HB1.out.then_ hb9⟩
 | true =>
   go_wp2_with fail
   refine (HA2.out _ HB1.out).mono ?_
   rintro e2 w2 ⟨f2,rfl,-,hb2⟩
   have HB2:=Lib.hid (HB1.out.then_ hb2)
   clear hb2 HA2
   cases f2 with
   | false =>
     clear HP1 HP2 HUN HSM HS2 HUA HEQ hna hnb
     go_wp2_with (go_at_call 10;refine (HW.out _ HB2.out).mono ?_;rintro e9 w9 ⟨rfl,hb9⟩)
     go_ret
     exact ⟨rfl,HB2.out.then_ hb9⟩
   | true =>
     go_wp2_with fail
     refine (HP1.out _ HB2.out).mono ?_
     rintro e3 w3 ⟨v3,rfl,hv3,hb3⟩
     have HB3:=Lib.hid (HB2.out.then_ hb3)
     have HV3:=Lib.hid hv3
     obtain ⟨A3,c3,rfl,-⟩:=hv3
     clear HB2 hb3 HP1
     go_wp2_with fail
     refine (HP2.out _ HB3.out).mono ?_
     rintro e4 w4 ⟨v4,rfl,hv4,hb4⟩
     have HB4:=Lib.hid (HB3.out.then_ hb4)
     have HV3:=Lib.hid (HV3.out.bel hb4)
     have HV4:=Lib.hid hv4
     obtain ⟨A4,c4,rfl,-⟩:=hv4
     clear HB3 hb4 HP2
     rcases hna with rfl | rfl | rfl
     ·rcases hnb with rfl | rfl | rfl
      all_goals
       clear HUN HSM HS2 HUA HEQ HV3 HV4
       go_wp2_with (first | (go_at_call 13;refine (l8num_any _ _).mono ?_;rintro e w' ⟨rfl,rfl⟩) | (go_at_call 10;refine (HW.out _ HB4.out).mono ?_;rintro e9 w9 ⟨rfl,hb9⟩))
       go_ret
       exact ⟨rfl,HB4.out.then_ hb9⟩
     ·rcases hnb with rfl | rfl | rfl
      all_goals
       clear HUN HSM HS2 HUA HEQ HV3 HV4
       go_wp2_with (first | (go_at_call 13;refine (l8num_any _ _).mono ?_;rintro e w' ⟨rfl,rfl⟩) | (go_at_call 10;refine (HW.out _ HB4.out).mono ?_;rintro e9 w9 ⟨rfl,hb9⟩))
       go_ret
       exact ⟨rfl,HB4.out.then_ hb9⟩
     ·by_cases hb0:nb=0
      case neg =>
       rcases hnb with rfl | rfl | rfl
       case inr.inr=>exact absurd rfl hb0
       all_goals
        clear HUN HSM HS2 HUA HEQ HV3 HV4 hb0
        go_wp2_with (first | (go_at_call 13;refine (l8num_any _ _).mono ?_;rintro e w' ⟨rfl,rfl⟩) | (go_at_call 10;refine (HW.out _ HB4.out).mono ?_;rintro e9 w9 ⟨rfl,hb9⟩))
        go_ret
        exact ⟨rfl,HB4.out.then_ hb9⟩
      case pos =>
       subst hb0
       obtain ⟨hsl,hun⟩:=HUA.out rfl
       have heq:=HEQ.out rfl rfl
       rw [← str_eqb] at heq
       have HU:=HUN.out _ sa hsl w4 HB4.out HV3.out
       rw [hun] at HU
       have HU:=Lib.hid HU
       clear HUA HEQ HUN hun hsl hnb
       go_wp2_with (go_at_call 13;refine (l8num_any _ _).mono ?_;rintro e w' ⟨rfl,rfl⟩)
       refine HU.out.mono ?_
       rintro e5 w5 ⟨v5,rfl,hv5,hb5⟩
       have HB5:=Lib.hid (HB4.out.then_ hb5)
       have HV5:=Lib.hid hv5.at_
       obtain ⟨A5,c5,rfl,-⟩:=hv5.at_
       have HS1:=Lib.hid (fun V (hV:Bel w5 V)=>HSM.out _ V (HB5.out.then_ hV) (HV5.out.bel hV))
       have HS2:=Lib.hid (fun V (hV:Bel w5 V)=>HS2.out V (HB5.out.then_ hV))
       obtain ⟨X,hX⟩ : ∃ x:ByteArray,x=⟨sa.toArray⟩:=⟨_,rfl⟩
       obtain ⟨Y,hY⟩ : ∃ x:ByteArray,x=⟨sb.toArray⟩:=⟨_,rfl⟩
       obtain ⟨nx,hnx⟩ : ∃ n,n=sa.length:=⟨_,rfl⟩
       obtain ⟨ny,hny⟩ : ∃ n,n=sb.length:=⟨_,rfl⟩
       have HS:Hid (∀ V,Bel w5 V→(fun V:World=>Bel w5 V∧(convert 34 9 (.slice A3 nx c3)).run Tryz.prog V = .ok (.string X) V∧(convert 34 9 (.slice A4 ny c4)).run Tryz.prog V = .ok (.string Y) V) V):=Lib.hid (fun V h=>⟨h,by rw [hX,hnx];exact bs_conv (HV3.out.bel (hb5.then_ h)),by rw [hY,hny];exact bs_conv (HV4.out.bel (hb5.then_ h))⟩)
       rw [← hX,← hY] at heq
       rw [← hnx,← hny]
       clear hX hY hnx hny HSM HV3 HV4 HV5 HU hv5 hb5
       cases SS with
       | true =>
         go_wp2_with fail
         refine wp_region_noPanic ?_
         refine wp_region_held_drew (S:=(fun V:World=>Bel w5 V∧(convert 34 9 (.slice A3 nx c3)).run Tryz.prog V = .ok (.string X) V∧(convert 34 9 (.slice A4 ny c4)).run Tryz.prog V = .ok (.string Y) V)) (by kernel_rfl) ?_ (fun hHr1_0=>?_)
         ·(try dsimp only);(first | assumption | exact HS.out _ (Bel.refl w5).drew | exact HS.out _ ((And.left (by assumption):Bel w5 _).then_ hb10) | exact HS.out _ ((And.left (by assumption):Bel w5 _).then_ hb11) | exact HS.out _ ((And.left (by assumption):Bel w5 _).then_ hb12))
         refine tk 0 ?_
         refine rd1 1 (fun K hK=>?_)
         go_simp
         (go_at_call 13;refine (l8num_any _ _).mono ?_;rintro e w' ⟨rfl,rfl⟩)
         try (go_wp2_with fail)
         refine hK.out _ _ ?_ (fun hHr1_1=>?_)
         ·(try dsimp only);(first | assumption | exact HS.out _ (Bel.refl w5).drew | exact HS.out _ ((And.left (by assumption):Bel w5 _).then_ hb10) | exact HS.out _ ((And.left (by assumption):Bel w5 _).then_ hb11) | exact HS.out _ ((And.left (by assumption):Bel w5 _).then_ hb12))
         clear hK K hHr1_0
         try simp only [tkp0,tkp1,tkp2,tkp3,tkp4,tkp5,tkp6,tkp7]
         refine tk 2 ?_
         refine tk 3 ?_
         refine tk 4 ?_
         refine tk 5 ?_
         refine rd1 6 (fun K hK=>?_)
         go_simp
         (go_at_call 21;refine (HS1.out _ (And.left (by assumption))).mono ?_;rintro e w10 ⟨rfl,hb10⟩)
         try (go_wp2_with fail)
         refine hK.out _ _ ?_ (fun hHr1_2=>?_)
         ·(try dsimp only);(first | assumption | exact HS.out _ (Bel.refl w5).drew | exact HS.out _ ((And.left (by assumption):Bel w5 _).then_ hb10) | exact HS.out _ ((And.left (by assumption):Bel w5 _).then_ hb11) | exact HS.out _ ((And.left (by assumption):Bel w5 _).then_ hb12))
         clear hK K hHr1_1
         try simp only [tkp0,tkp1,tkp2,tkp3,tkp4,tkp5,tkp6,tkp7]
         refine tk 7 ?_
         refine tk 8 ?_
         refine tk 9 ?_
         refine tk 10 ?_
         refine tk 11 ?_
         refine tk 12 ?_
         refine tk 13 ?_
         refine tk 14 ?_
         refine tk 15 ?_
         refine rd1 16 (fun K hK=>?_)
         go_simp
         (go_at_call 21;refine (HS2.out _ (And.left (by assumption))).mono ?_;rintro e w11 ⟨rfl,hb11⟩)
         try (go_wp2_with fail)
         refine hK.out _ _ ?_ (fun hHr1_3=>?_)
         ·(try dsimp only);(first | assumption | exact HS.out _ (Bel.refl w5).drew | exact HS.out _ ((And.left (by assumption):Bel w5 _).then_ hb10) | exact HS.out _ ((And.left (by assumption):Bel w5 _).then_ hb11) | exact HS.out _ ((And.left (by assumption):Bel w5 _).then_ hb12))
         clear hK K hHr1_2
         try simp only [tkp0,tkp1,tkp2,tkp3,tkp4,tkp5,tkp6,tkp7]
         refine tk 17 ?_
         refine tk 18 ?_
         refine tk 19 ?_
         refine rd1 20 (fun K hK=>?_)
         go_simp
         (go_at_call 10;refine (HW.out _ (HB5.out.then_ (And.left (by assumption)))).mono ?_;rintro e w12 ⟨rfl,hb12⟩)
         try (go_wp2_with fail)
         refine hK.out _ _ ?_ (fun hHr1_4=>?_)
         ·(try dsimp only);(first | assumption | exact HS.out _ (Bel.refl w5).drew | exact HS.out _ ((And.left (by assumption):Bel w5 _).then_ hb10) | exact HS.out _ ((And.left (by assumption):Bel w5 _).then_ hb11) | exact HS.out _ ((And.left (by assumption):Bel w5 _).then_ hb12))
         clear hK K hHr1_3
         try simp only [tkp0,tkp1,tkp2,tkp3,tkp4,tkp5,tkp6,tkp7]
         refine tk 21 ?_
         refine tk 22 ?_
         refine wpAnyH_done (by kernel_rfl) ?_ _
         refine NoPanic.normal ?_
         have hfin:=HB5.out.then_ (And.left (by assumption))
         go_wp2
         go_ret
         exact ⟨rfl,hfin⟩
       | false =>
         go_wp2_with fail
         refine wp_region_noPanic ?_
         refine wp_region_held_drew (S:=(fun V:World=>Bel w5 V∧(convert 34 9 (.slice A3 nx c3)).run Tryz.prog V = .ok (.string X) V∧(convert 34 9 (.slice A4 ny c4)).run Tryz.prog V = .ok (.string Y) V)) (by kernel_rfl) ?_ (fun hHr2_0=>?_)
         ·(try dsimp only);(first | assumption | exact HS.out _ (Bel.refl w5).drew | exact HS.out _ ((And.left (by assumption):Bel w5 _).then_ hb10) | exact HS.out _ ((And.left (by assumption):Bel w5 _).then_ hb11) | exact HS.out _ ((And.left (by assumption):Bel w5 _).then_ hb12))
         refine tk 0 ?_
         refine rd1 1 (fun K hK=>?_)
         go_simp
         (go_at_call 13;refine (l8num_any _ _).mono ?_;rintro e w' ⟨rfl,rfl⟩)
         try (go_wp2_with fail)
         refine hK.out _ _ ?_ (fun hHr2_1=>?_)
         ·(try dsimp only);(first | assumption | exact HS.out _ (Bel.refl w5).drew | exact HS.out _ ((And.left (by assumption):Bel w5 _).then_ hb10) | exact HS.out _ ((And.left (by assumption):Bel w5 _).then_ hb11) | exact HS.out _ ((And.left (by assumption):Bel w5 _).then_ hb12))
         clear hK K hHr2_0
         try simp only [tkp0,tkp1,tkp2,tkp3,tkp4,tkp5,tkp6,tkp7]
         refine tk 2 ?_
         refine tk 3 ?_
         refine tk 4 ?_
         refine tk 5 ?_
         refine rd1 6 (fun K hK=>?_)
         go_simp
         (go_at_call 21;refine (HS1.out _ (And.left (by assumption))).mono ?_;rintro e w10 ⟨rfl,hb10⟩)
         try (go_wp2_with fail)
         refine hK.out _ _ ?_ (fun hHr2_2=>?_)
         ·(try dsimp only);(first | assumption | exact HS.out _ (Bel.refl w5).drew | exact HS.out _ ((And.left (by assumption):Bel w5 _).then_ hb10) | exact HS.out _ ((And.left (by assumption):Bel w5 _).then_ hb11) | exact HS.out _ ((And.left (by assumption):Bel w5 _).then_ hb12))
         clear hK K hHr2_1
         try simp only [tkp0,tkp1,tkp2,tkp3,tkp4,tkp5,tkp6,tkp7]
         refine tk 7 ?_
         refine tk 8 ?_
         refine tk 9 ?_
         refine tk 10 ?_
         refine tk 11 ?_
         refine tk 12 ?_
         refine tk 13 ?_
         refine tk 14 ?_
         refine tk 15 ?_
         refine rd1 16 (fun K hK=>?_)
         go_simp
         (go_at_call 21;refine (HS2.out _ (And.left (by assumption))).mono ?_;rintro e w11 ⟨rfl,hb11⟩)
         try (go_wp2_with fail)
         refine hK.out _ _ ?_ (fun hHr2_3=>?_)
         ·(try dsimp only);(first | assumption | exact HS.out _ (Bel.refl w5).drew | exact HS.out _ ((And.left (by assumption):Bel w5 _).then_ hb10) | exact HS.out _ ((And.left (by assumption):Bel w5 _).then_ hb11) | exact HS.out _ ((And.left (by assumption):Bel w5 _).then_ hb12))
         clear hK K hHr2_2
         try simp only [tkp0,tkp1,tkp2,tkp3,tkp4,tkp5,tkp6,tkp7]
         refine tk 17 ?_
         refine tk 18 ?_
         refine tk 19 ?_
         refine rd1 20 (fun K hK=>?_)
         go_simp
         (go_at_call 10;refine (HW.out _ (HB5.out.then_ (And.left (by assumption)))).mono ?_;rintro e w12 ⟨rfl,hb12⟩)
         try (go_wp2_with fail)
         refine hK.out _ _ ?_ (fun hHr2_4=>?_)
         ·(try dsimp only);(first | assumption | exact HS.out _ (Bel.refl w5).drew | exact HS.out _ ((And.left (by assumption):Bel w5 _).then_ hb10) | exact HS.out _ ((And.left (by assumption):Bel w5 _).then_ hb11) | exact HS.out _ ((And.left (by assumption):Bel w5 _).then_ hb12))
         clear hK K hHr2_3
         try simp only [tkp0,tkp1,tkp2,tkp3,tkp4,tkp5,tkp6,tkp7]
         refine tk 21 ?_
         refine tk 22 ?_
         refine wpAnyH_done (by kernel_rfl) ?_ _
         refine NoPanic.normal ?_
         have hfin:=HB5.out.then_ (And.left (by assumption))
         go_wp2
         go_ret
         exact ⟨rfl,hfin⟩
end
end Go.Proofs.YtnajjhgbombboaaGreatDoor
