/-
  Texts behind the statement: part 58.
-/
import Derived.Test.YtnajjhgbombboaaGreatDoorP30
import Derived.Test.YtnajjhgbombboaaGreatDoorP32
import Derived.Test.YtnajjhgbombboaaGreatDoorP43
set_option linter.unusedVariables false
set_option linter.unusedSimpArgs false
namespace Go.Proofs.YtnajjhgbombboaaGreatDoor
section
open Go.RowKit
theorem encE_inj {x y:Ev} (hx:rightE x=true) (hy:rightE y=true) (wx:x.Wf) (wy:y.Wf) (h:encE x=encE y):x=y:=by
 have:=decE_enc hx wx
 rw [h,decE_enc hy wy] at this
 exact (Option.some.inj this).symm
end
section
open Go.RowKit Go.Shelf Go.Lib
attribute [local go_sem] Oper.semAt_some
set_option maxRecDepth 100000 in
set_option maxHeartbeats 16000000 in
theorem l8Same_any (a b:Ev) (vc vk vu vo vn vs vc' vk' vu' vo' vn' vs':Value) (w:World) (hg:ErrType w) (ha:EvAt w vc vk vu vo vn vs a) (hb:EvAt w vc' vk' vu' vo' vn' vs' b) (ia:a.In) (ib:b.In):Calls Tryz.prog 5 #[evV a.k a.t vc vk vu vo vn vs,evV b.k b.t vc' vk' vu' vo' vn' vs'] w fun en w'=>en = .returned (.bool true)∧Bel w w':=by
 have hb0:Bel w ((w.alloc (.cells #[.int .i64 a.k,.string a.t,vc,vk,vu,vo,vn,vs] 31)).alloc (.cells #[.int .i64 b.k,.string b.t,vc',vk',vu',vo',vn',vs'] 31)):=((Bel.refl w).alloc _).alloc _
 have HF1:=Lib.hid (fun V (hV:Bel w V)=>l8few_any a vc vk vu vo vn vs V (ha.bel hV) ia)
 have HF2:=Lib.hid (fun V (hV:Bel w V)=>l8few_any b vc' vk' vu' vo' vn' vs' V (hb.bel hV) ib)
 have HW:=Lib.hid (fun V (hV:Bel w V)=>l8works_any V (hg.bel hV))
 have HC:Hid (∀ V,Bel ((w.alloc (.cells #[.int .i64 a.k,.string a.t,vc,vk,vu,vo,vn,vs] 31)).alloc (.cells #[.int .i64 b.k,.string b.t,vc',vk',vu',vo',vn',vs'] 31)) V→(V.cell? ⟨w.heap.size,0,none⟩=some (.int .i64 a.k)∧V.cell? ⟨w.heap.size,1,none⟩=some (.string a.t)∧V.cell? ⟨w.heap.size,2,none⟩=some (vc)∧V.cell? ⟨w.heap.size,3,none⟩=some (vk)∧V.cell? ⟨w.heap.size,4,none⟩=some (vu)∧V.cell? ⟨w.heap.size,5,none⟩=some (vo)∧V.cell? ⟨w.heap.size,6,none⟩=some (vn)∧V.cell? ⟨w.heap.size,7,none⟩=some (vs))∧(V.cell? ⟨w.heap.size+1,0,none⟩=some (.int .i64 b.k)∧V.cell? ⟨w.heap.size+1,1,none⟩=some (.string b.t)∧V.cell? ⟨w.heap.size+1,2,none⟩=some (vc')∧V.cell? ⟨w.heap.size+1,3,none⟩=some (vk')∧V.cell? ⟨w.heap.size+1,4,none⟩=some (vu')∧V.cell? ⟨w.heap.size+1,5,none⟩=some (vo')∧V.cell? ⟨w.heap.size+1,6,none⟩=some (vn')∧V.cell? ⟨w.heap.size+1,7,none⟩=some (vs'))):=fun V h=>⟨⟨h.c (by go_simp),h.c (by go_simp),h.c (by go_simp),h.c (by go_simp),h.c (by go_simp),h.c (by go_simp),h.c (by go_simp),h.c (by go_simp)⟩,⟨h.c (by go_simp),h.c (by go_simp),h.c (by go_simp),h.c (by go_simp),h.c (by go_simp),h.c (by go_simp),h.c (by go_simp),h.c (by go_simp)⟩⟩
 have HE1:=Lib.hid (fun V (hV:Bel w V)=>eencode_any a vc vk vu vo vn vs V (hg.bel hV) ia.wf (ha.bel hV))
 have HE2:=Lib.hid (fun V (hV:Bel w V)=>eencode_any b vc' vk' vu' vo' vn' vs' V (hg.bel hV) ib.wf (hb.bel hV))
 have HRS:=Lib.hid (fun V (hV:Bel w V)=>r8Same_any a b vc vk vu vo vn vs vc' vk' vu' vo' vn' vs' V (ha.bel hV) (hb.bel hV))
 have HP1:=Lib.hid (fun V (hV:Bel w V)=>eSame_any a b vc vk vu vo vn vs vc' vk' vu' vo' vn' vs' V (ha.bel hV) (hb.bel hV))
 have HP2:=Lib.hid (fun V (hV:Bel w V)=>eSame_any b a vc' vk' vu' vo' vn' vs' vc vk vu vo vn vs V (hb.bel hV) (ha.bel hV))
 have HP3:=Lib.hid (fun V (hV:Bel w V)=>eSame_any a a vc vk vu vo vn vs vc vk vu vo vn vs V (ha.bel hV) (ha.bel hV))
 rw [show sameE a a=true by rw [sameE_is];simp] at HP3
 rw [show sameE b a=sameE a b by rw [sameE_is,sameE_is];exact decide_eq_decide.2 eq_comm] at HP2
 have HPL:Hid (rightE a=true→rightE b=true→decide (encE a=encE b)=sameE a b):=Lib.hid (fun h1 h2=>by
  rw [sameE_is]
  exact decide_eq_decide.2 ⟨fun e=>encE_inj h1 h2 ia.wf ib.wf e,fun e=>by rw [e]⟩)
 generalize sameE a b=S at HRS HP1 HP2 HPL
 obtain ⟨Ac,cc,Ak,ck,Au,cu,Ao,co,An,cn,As,cs,rfl,rfl,rfl,rfl,rfl,rfl⟩:=ha.opened
 obtain ⟨Bc,dc,Bk,dk,Bu,du,Bo,d0,Bn,dn,Bs,ds,rfl,rfl,rfl,rfl,rfl,rfl⟩:=hb.opened
 unfold evV at HF1 HF2 HE1 HE2 HRS HP1 HP2 HP3 ⊢
 have ha1:encER a=if rightE a=true then (encE a,0) else ([],2):=rfl
 have hb1:encER b=if rightE b=true then (encE b,0) else ([],2):=rfl
 generalize encER a=EA at HE1 ha1
 generalize encER b=EB at HE2 hb1
 obtain ⟨sa,na⟩:=EA
 obtain ⟨sb,nb⟩:=EB
 dsimp only at HE1 HE2
 have HNA:Hid ((na=2 ∨ na=0)∧(nb=2 ∨ nb=0)∧(na=0→nb=0→decide (sa=sb)=S)):=Lib.hid (by
  cases hra:rightE a with
  | false =>
    rw [hra] at ha1
    have e1:(sa,na)=([],2):=ha1
    injection e1 with e1 e2
    subst e2
    refine ⟨.inl rfl, ?_,fun h=>absurd h (by decide)⟩
    cases hrb:rightE b with
    | false=>rw [hrb] at hb1;have e1:(sb,nb)=([],2):=hb1;injection e1 with e1 e2;exact .inl e2
    | true=>rw [hrb] at hb1;have e1:(sb,nb)=(encE b,0):=hb1;injection e1 with e1 e2;exact .inr e2
  | true =>
    rw [hra] at ha1
    have e1:(sa,na)=(encE a,0):=ha1
    injection e1 with e1 e2
    subst e1 e2
    refine ⟨.inr rfl, ?_, ?_⟩
    ·cases hrb:rightE b with
     | false=>rw [hrb] at hb1;have e1:(sb,nb)=([],2):=hb1;injection e1 with e1 e2;exact .inl e2
     | true=>rw [hrb] at hb1;have e1:(sb,nb)=(encE b,0):=hb1;injection e1 with e1 e2;exact .inr e2
    ·intro _ hb0
     cases hrb:rightE b with
     | false=>rw [hrb] at hb1;have e1:(sb,nb)=([],2):=hb1;injection e1 with e1 e2;subst e2;exact absurd hb0 (by decide)
     | true=>rw [hrb] at hb1;have e1:(sb,nb)=(encE b,0):=hb1;injection e1 with e1 e2;subst e1;exact HPL.out hra hrb)
 clear HPL ha1 hb1
 clear hg ha hb ia ib
 go_enter Tryz.func5,Tryz.ntmps5
 go_wp2_with fail
 refine (HF1.out _ hb0).mono ?_
 rintro e1 w1 ⟨f1,rfl,-,hb1⟩
 obtain ⟨⟨q0,q1,q2,q3,q4,q5,q6,q7⟩,z0,z1,z2,z3,z4,z5,z6,z7⟩:=HC.out w1 hb1
 have HB1:=Lib.hid (hb0.then_ hb1)
 have HX1:=Lib.hid hb1
 clear hb0 hb1 HF1
 cases f1 with
 | false =>
   clear HF2 HE1 HE2 HRS HP1 HP2 HP3 HNA
   go_wp2_with (go_at_call 10;refine (HW.out _ HB1.out).mono ?_;rintro e9 w9 ⟨rfl,hb9⟩)
   go_ret
   exact ⟨rfl,HB1.out.then_ hb9⟩
 | true =>
   go_wp2_with fail
   refine (HF2.out _ HB1.out).mono ?_
   rintro e2 w2 ⟨f2,rfl,-,hb2⟩
   obtain ⟨⟨q0,q1,q2,q3,q4,q5,q6,q7⟩,z0,z1,z2,z3,z4,z5,z6,z7⟩:=HC.out w2 (HX1.out.then_ hb2)
   have HB2:=Lib.hid (HB1.out.then_ hb2)
   have HX2:=Lib.hid (HX1.out.then_ hb2)
   clear HB1 HX1 hb2 HF2
   cases f2 with
   | false =>
     clear HE1 HE2 HRS HP1 HP2 HP3 HNA
     go_wp2_with (go_at_call 10;refine (HW.out _ HB2.out).mono ?_;rintro e9 w9 ⟨rfl,hb9⟩)
     go_ret
     exact ⟨rfl,HB2.out.then_ hb9⟩
   | true =>
     go_wp2_with fail
     refine (HE1.out _ HB2.out).mono ?_
     rintro e3 w3 ⟨v3,rfl,hv3,hb3⟩
     obtain ⟨⟨q0,q1,q2,q3,q4,q5,q6,q7⟩,z0,z1,z2,z3,z4,z5,z6,z7⟩:=HC.out w3 (HX2.out.then_ hb3)
     have HB3:=Lib.hid (HB2.out.then_ hb3)
     have HX3:=Lib.hid (HX2.out.then_ hb3)
     have HV3:=Lib.hid hv3
     obtain ⟨A3,c3,rfl,-⟩:=hv3
     clear HB2 HX2 hb3 HE1
     go_wp2_with fail
     refine (HE2.out _ HB3.out).mono ?_
     rintro e4 w4 ⟨v4,rfl,hv4,hb4⟩
     obtain ⟨⟨q0,q1,q2,q3,q4,q5,q6,q7⟩,z0,z1,z2,z3,z4,z5,z6,z7⟩:=HC.out w4 (HX3.out.then_ hb4)
     have HB4:=Lib.hid (HB3.out.then_ hb4)
     have HX4:=Lib.hid (HX3.out.then_ hb4)
     have HV3:=Lib.hid (HV3.out.bel hb4)
     have HV4:=Lib.hid hv4
     obtain ⟨A4,c4,rfl,-⟩:=hv4
     clear HB3 HX3 hb4 HE2
     go_wp2_with fail
     refine (HRS.out _ HB4.out).mono ?_
     rintro e5 w5 ⟨rfl,hb5⟩
     obtain ⟨⟨q0,q1,q2,q3,q4,q5,q6,q7⟩,z0,z1,z2,z3,z4,z5,z6,z7⟩:=HC.out w5 (HX4.out.then_ hb5)
     have HB5:=Lib.hid (HB4.out.then_ hb5)
     have HX5:=Lib.hid (HX4.out.then_ hb5)
     have HV3:=Lib.hid (HV3.out.bel hb5)
     have HV4:=Lib.hid (HV4.out.bel hb5)
     clear HB4 HX4 hb5 HRS
     have HCV:Hid (∀ V,Bel w5 V→(convert 34 9 (.slice A3 sa.length c3)).run Tryz.prog V = .ok (.string ⟨sa.toArray⟩) V∧(convert 34 9 (.slice A4 sb.length c4)).run Tryz.prog V = .ok (.string ⟨sb.toArray⟩) V):=fun V h=>⟨bs_conv (HV3.out.bel h),bs_conv (HV4.out.bel h)⟩
     clear HV3 HV4
     obtain ⟨hna,hnb,hpl⟩:=HNA.out
     have HPL:=Lib.hid hpl
     clear HNA hpl
     rcases hna with rfl | rfl
     ·clear HPL
      rcases hnb with rfl | rfl
      ·cases S with
       | true =>
         go_wp2_with fail
         refine (HP1.out _ HB5.out).mono ?_
         rintro e6 w6 ⟨rfl,hb6⟩
         obtain ⟨⟨q0,q1,q2,q3,q4,q5,q6,q7⟩,z0,z1,z2,z3,z4,z5,z6,z7⟩:=HC.out w6 (HX5.out.then_ hb6)
         have HB6:=Lib.hid (HB5.out.then_ hb6)
         have HX6:=Lib.hid (HX5.out.then_ hb6)
         go_wp2_with fail
         refine (HP2.out _ HB6.out).mono ?_
         rintro e7 w7 ⟨rfl,hb7⟩
         obtain ⟨⟨q0,q1,q2,q3,q4,q5,q6,q7⟩,z0,z1,z2,z3,z4,z5,z6,z7⟩:=HC.out w7 (HX6.out.then_ hb7)
         have HB7:=Lib.hid (HB6.out.then_ hb7)
         have HX7:=Lib.hid (HX6.out.then_ hb7)
         go_wp2_with fail
         refine (HP3.out _ HB7.out).mono ?_
         rintro e8 w8 ⟨rfl,hb8⟩
         have HB8:=Lib.hid (HB7.out.then_ hb8)
         obtain ⟨k1,k2⟩:=HCV.out w8 ((hb6.then_ hb7).then_ hb8)
         clear HP1 HP2 HP3 HCV HC
         go_wp2_with (first | (go_at_call 13;refine (l8num_any _ _).mono ?_;rintro e w' ⟨rfl,rfl⟩) | (go_at_call 10;refine (HW.out _ HB8.out).mono ?_;rintro e9 w9 ⟨rfl,hb9⟩))
         go_ret
         exact ⟨rfl,HB8.out.then_ hb9⟩
       | false =>
         go_wp2_with fail
         refine (HP1.out _ HB5.out).mono ?_
         rintro e6 w6 ⟨rfl,hb6⟩
         obtain ⟨⟨q0,q1,q2,q3,q4,q5,q6,q7⟩,z0,z1,z2,z3,z4,z5,z6,z7⟩:=HC.out w6 (HX5.out.then_ hb6)
         have HB6:=Lib.hid (HB5.out.then_ hb6)
         have HX6:=Lib.hid (HX5.out.then_ hb6)
         go_wp2_with fail
         refine (HP2.out _ HB6.out).mono ?_
         rintro e7 w7 ⟨rfl,hb7⟩
         obtain ⟨⟨q0,q1,q2,q3,q4,q5,q6,q7⟩,z0,z1,z2,z3,z4,z5,z6,z7⟩:=HC.out w7 (HX6.out.then_ hb7)
         have HB7:=Lib.hid (HB6.out.then_ hb7)
         have HX7:=Lib.hid (HX6.out.then_ hb7)
         go_wp2_with fail
         refine (HP3.out _ HB7.out).mono ?_
         rintro e8 w8 ⟨rfl,hb8⟩
         have HB8:=Lib.hid (HB7.out.then_ hb8)
         obtain ⟨k1,k2⟩:=HCV.out w8 ((hb6.then_ hb7).then_ hb8)
         clear HP1 HP2 HP3 HCV HC
         go_wp2_with (first | (go_at_call 13;refine (l8num_any _ _).mono ?_;rintro e w' ⟨rfl,rfl⟩) | (go_at_call 10;refine (HW.out _ HB8.out).mono ?_;rintro e9 w9 ⟨rfl,hb9⟩))
         go_ret
         exact ⟨rfl,HB8.out.then_ hb9⟩
      ·cases S with
       | true =>
         go_wp2_with fail
         refine (HP1.out _ HB5.out).mono ?_
         rintro e6 w6 ⟨rfl,hb6⟩
         obtain ⟨⟨q0,q1,q2,q3,q4,q5,q6,q7⟩,z0,z1,z2,z3,z4,z5,z6,z7⟩:=HC.out w6 (HX5.out.then_ hb6)
         have HB6:=Lib.hid (HB5.out.then_ hb6)
         have HX6:=Lib.hid (HX5.out.then_ hb6)
         go_wp2_with fail
         refine (HP2.out _ HB6.out).mono ?_
         rintro e7 w7 ⟨rfl,hb7⟩
         obtain ⟨⟨q0,q1,q2,q3,q4,q5,q6,q7⟩,z0,z1,z2,z3,z4,z5,z6,z7⟩:=HC.out w7 (HX6.out.then_ hb7)
         have HB7:=Lib.hid (HB6.out.then_ hb7)
         have HX7:=Lib.hid (HX6.out.then_ hb7)
         go_wp2_with fail
         refine (HP3.out _ HB7.out).mono ?_
         rintro e8 w8 ⟨rfl,hb8⟩
         have HB8:=Lib.hid (HB7.out.then_ hb8)
         obtain ⟨k1,k2⟩:=HCV.out w8 ((hb6.then_ hb7).then_ hb8)
         clear HP1 HP2 HP3 HCV HC
         go_wp2_with (first | (go_at_call 13;refine (l8num_any _ _).mono ?_;rintro e w' ⟨rfl,rfl⟩) | (go_at_call 10;refine (HW.out _ HB8.out).mono ?_;rintro e9 w9 ⟨rfl,hb9⟩))
         go_ret
         exact ⟨rfl,HB8.out.then_ hb9⟩
       | false =>
         go_wp2_with fail
         refine (HP1.out _ HB5.out).mono ?_
         rintro e6 w6 ⟨rfl,hb6⟩
         obtain ⟨⟨q0,q1,q2,q3,q4,q5,q6,q7⟩,z0,z1,z2,z3,z4,z5,z6,z7⟩:=HC.out w6 (HX5.out.then_ hb6)
         have HB6:=Lib.hid (HB5.out.then_ hb6)
         have HX6:=Lib.hid (HX5.out.then_ hb6)
         go_wp2_with fail
         refine (HP2.out _ HB6.out).mono ?_
         rintro e7 w7 ⟨rfl,hb7⟩
         obtain ⟨⟨q0,q1,q2,q3,q4,q5,q6,q7⟩,z0,z1,z2,z3,z4,z5,z6,z7⟩:=HC.out w7 (HX6.out.then_ hb7)
         have HB7:=Lib.hid (HB6.out.then_ hb7)
         have HX7:=Lib.hid (HX6.out.then_ hb7)
         go_wp2_with fail
         refine (HP3.out _ HB7.out).mono ?_
         rintro e8 w8 ⟨rfl,hb8⟩
         have HB8:=Lib.hid (HB7.out.then_ hb8)
         obtain ⟨k1,k2⟩:=HCV.out w8 ((hb6.then_ hb7).then_ hb8)
         clear HP1 HP2 HP3 HCV HC
         go_wp2_with (first | (go_at_call 13;refine (l8num_any _ _).mono ?_;rintro e w' ⟨rfl,rfl⟩) | (go_at_call 10;refine (HW.out _ HB8.out).mono ?_;rintro e9 w9 ⟨rfl,hb9⟩))
         go_ret
         exact ⟨rfl,HB8.out.then_ hb9⟩
     ·rcases hnb with rfl | rfl
      ·clear HPL
       cases S with
       | true =>
         go_wp2_with fail
         refine (HP1.out _ HB5.out).mono ?_
         rintro e6 w6 ⟨rfl,hb6⟩
         obtain ⟨⟨q0,q1,q2,q3,q4,q5,q6,q7⟩,z0,z1,z2,z3,z4,z5,z6,z7⟩:=HC.out w6 (HX5.out.then_ hb6)
         have HB6:=Lib.hid (HB5.out.then_ hb6)
         have HX6:=Lib.hid (HX5.out.then_ hb6)
         go_wp2_with fail
         refine (HP2.out _ HB6.out).mono ?_
         rintro e7 w7 ⟨rfl,hb7⟩
         obtain ⟨⟨q0,q1,q2,q3,q4,q5,q6,q7⟩,z0,z1,z2,z3,z4,z5,z6,z7⟩:=HC.out w7 (HX6.out.then_ hb7)
         have HB7:=Lib.hid (HB6.out.then_ hb7)
         have HX7:=Lib.hid (HX6.out.then_ hb7)
         go_wp2_with fail
         refine (HP3.out _ HB7.out).mono ?_
         rintro e8 w8 ⟨rfl,hb8⟩
         have HB8:=Lib.hid (HB7.out.then_ hb8)
         obtain ⟨k1,k2⟩:=HCV.out w8 ((hb6.then_ hb7).then_ hb8)
         clear HP1 HP2 HP3 HCV HC
         go_wp2_with (first | (go_at_call 13;refine (l8num_any _ _).mono ?_;rintro e w' ⟨rfl,rfl⟩) | (go_at_call 10;refine (HW.out _ HB8.out).mono ?_;rintro e9 w9 ⟨rfl,hb9⟩))
         go_ret
         exact ⟨rfl,HB8.out.then_ hb9⟩
       | false =>
         go_wp2_with fail
         refine (HP1.out _ HB5.out).mono ?_
         rintro e6 w6 ⟨rfl,hb6⟩
         obtain ⟨⟨q0,q1,q2,q3,q4,q5,q6,q7⟩,z0,z1,z2,z3,z4,z5,z6,z7⟩:=HC.out w6 (HX5.out.then_ hb6)
         have HB6:=Lib.hid (HB5.out.then_ hb6)
         have HX6:=Lib.hid (HX5.out.then_ hb6)
         go_wp2_with fail
         refine (HP2.out _ HB6.out).mono ?_
         rintro e7 w7 ⟨rfl,hb7⟩
         obtain ⟨⟨q0,q1,q2,q3,q4,q5,q6,q7⟩,z0,z1,z2,z3,z4,z5,z6,z7⟩:=HC.out w7 (HX6.out.then_ hb7)
         have HB7:=Lib.hid (HB6.out.then_ hb7)
         have HX7:=Lib.hid (HX6.out.then_ hb7)
         go_wp2_with fail
         refine (HP3.out _ HB7.out).mono ?_
         rintro e8 w8 ⟨rfl,hb8⟩
         have HB8:=Lib.hid (HB7.out.then_ hb8)
         obtain ⟨k1,k2⟩:=HCV.out w8 ((hb6.then_ hb7).then_ hb8)
         clear HP1 HP2 HP3 HCV HC
         go_wp2_with (first | (go_at_call 13;refine (l8num_any _ _).mono ?_;rintro e w' ⟨rfl,rfl⟩) | (go_at_call 10;refine (HW.out _ HB8.out).mono ?_;rintro e9 w9 ⟨rfl,hb9⟩))
         go_ret
         exact ⟨rfl,HB8.out.then_ hb9⟩
      ·have hpl:=HPL.out rfl rfl
       rw [← str_eqb] at hpl
       obtain ⟨X,hX⟩ : ∃ x:ByteArray,x=⟨sa.toArray⟩:=⟨_,rfl⟩
       obtain ⟨Y,hY⟩ : ∃ x:ByteArray,x=⟨sb.toArray⟩:=⟨_,rfl⟩
       rw [← hX,← hY] at hpl HCV
       clear HPL hX hY
       cases S with
       | true =>
         go_wp2_with fail
         refine (HP1.out _ HB5.out).mono ?_
         rintro e6 w6 ⟨rfl,hb6⟩
         obtain ⟨⟨q0,q1,q2,q3,q4,q5,q6,q7⟩,z0,z1,z2,z3,z4,z5,z6,z7⟩:=HC.out w6 (HX5.out.then_ hb6)
         have HB6:=Lib.hid (HB5.out.then_ hb6)
         have HX6:=Lib.hid (HX5.out.then_ hb6)
         go_wp2_with fail
         refine (HP2.out _ HB6.out).mono ?_
         rintro e7 w7 ⟨rfl,hb7⟩
         obtain ⟨⟨q0,q1,q2,q3,q4,q5,q6,q7⟩,z0,z1,z2,z3,z4,z5,z6,z7⟩:=HC.out w7 (HX6.out.then_ hb7)
         have HB7:=Lib.hid (HB6.out.then_ hb7)
         have HX7:=Lib.hid (HX6.out.then_ hb7)
         go_wp2_with fail
         refine (HP3.out _ HB7.out).mono ?_
         rintro e8 w8 ⟨rfl,hb8⟩
         have HB8:=Lib.hid (HB7.out.then_ hb8)
         obtain ⟨k1,k2⟩:=HCV.out w8 ((hb6.then_ hb7).then_ hb8)
         clear HP1 HP2 HP3 HCV HC
         go_wp2_with (first | (go_at_call 13;refine (l8num_any _ _).mono ?_;rintro e w' ⟨rfl,rfl⟩) | (go_at_call 10;refine (HW.out _ HB8.out).mono ?_;rintro e9 w9 ⟨rfl,hb9⟩))
         go_ret
         exact ⟨rfl,HB8.out.then_ hb9⟩
       | false =>
         go_wp2_with fail
         refine (HP1.out _ HB5.out).mono ?_
         rintro e6 w6 ⟨rfl,hb6⟩
         obtain ⟨⟨q0,q1,q2,q3,q4,q5,q6,q7⟩,z0,z1,z2,z3,z4,z5,z6,z7⟩:=HC.out w6 (HX5.out.then_ hb6)
         have HB6:=Lib.hid (HB5.out.then_ hb6)
         have HX6:=Lib.hid (HX5.out.then_ hb6)
         go_wp2_with fail
         refine (HP2.out _ HB6.out).mono ?_
         rintro e7 w7 ⟨rfl,hb7⟩
         obtain ⟨⟨q0,q1,q2,q3,q4,q5,q6,q7⟩,z0,z1,z2,z3,z4,z5,z6,z7⟩:=HC.out w7 (HX6.out.then_ hb7)
         have HB7:=Lib.hid (HB6.out.then_ hb7)
         have HX7:=Lib.hid (HX6.out.then_ hb7)
         go_wp2_with fail
         refine (HP3.out _ HB7.out).mono ?_
         rintro e8 w8 ⟨rfl,hb8⟩
         have HB8:=Lib.hid (HB7.out.then_ hb8)
         obtain ⟨k1,k2⟩:=HCV.out w8 ((hb6.then_ hb7).then_ hb8)
         clear HP1 HP2 HP3 HCV HC
         go_wp2_with (first | (go_at_call 13;refine (l8num_any _ _).mono ?_;rintro e w' ⟨rfl,rfl⟩) | (go_at_call 10;refine (HW.out _ HB8.out).mono ?_;rintro e9 w9 ⟨rfl,hb9⟩))
         go_ret
         exact ⟨rfl,HB8.out.then_ hb9⟩
end
end Go.Proofs.YtnajjhgbombboaaGreatDoor
