/-
  Texts behind the statement: part 53.
-/
import Derived.Test.YtnajjhgbombboaaGreatDoorP30
import Derived.Test.YtnajjhgbombboaaGreatDoorP32
import Derived.Test.YtnajjhgbombboaaGreatDoorP38
set_option linter.unusedVariables false
set_option linter.unusedSimpArgs false
namespace Go.Proofs.YtnajjhgbombboaaGreatDoor
section
open Go.RowKit Go.Shelf Go.Lib
attribute [local go_sem] Oper.semAt_some
set_option maxRecDepth 100000 in
set_option maxHeartbeats 8000000 in
theorem l8Bytes_any (e:Ev) (vc vk vu vo vn vs:Value) (w:World) (hg:ErrType w) (h:EvAt w vc vk vu vo vn vs e) (hin:e.In):Calls Tryz.prog 3 #[evV e.k e.t vc vk vu vo vn vs] w fun en w'=>en = .returned (.bool true)∧Bel w w':=by
 have hb0:Bel w (w.alloc (.cells #[.int .i64 e.k,.string e.t,vc,vk,vu,vo,vn,vs] 31)):=(Bel.refl w).alloc _
 have HF:=Lib.hid (fun V (hV:Bel w V)=>l8few_any e vc vk vu vo vn vs V (h.bel hV) hin)
 have HW:=Lib.hid (fun V (hV:Bel w V)=>l8works_any V (hg.bel hV))
 have HC:Hid (∀ V,Bel (w.alloc (.cells #[.int .i64 e.k,.string e.t,vc,vk,vu,vo,vn,vs] 31)) V→V.cell? ⟨w.heap.size,0,none⟩=some (.int .i64 e.k)∧V.cell? ⟨w.heap.size,1,none⟩=some (.string e.t)∧V.cell? ⟨w.heap.size,2,none⟩=some (vc)∧V.cell? ⟨w.heap.size,3,none⟩=some (vk)∧V.cell? ⟨w.heap.size,4,none⟩=some (vu)∧V.cell? ⟨w.heap.size,5,none⟩=some (vo)∧V.cell? ⟨w.heap.size,6,none⟩=some (vn)∧V.cell? ⟨w.heap.size,7,none⟩=some (vs)):=fun V h=>⟨h.c (by go_simp),h.c (by go_simp),h.c (by go_simp),h.c (by go_simp),h.c (by go_simp),h.c (by go_simp),h.c (by go_simp),h.c (by go_simp)⟩
 have HEN:=Lib.hid (fun V (hV:Bel w V)=>eencode_any e vc vk vu vo vn vs V (hg.bel hV) hin.wf (h.bel hV))
 have HRE:=Lib.hid (fun (hf:FewP e) V (hV:Bel w V)=>r8Encode_any e vc vk vu vo vn vs V hin.wf (hf.sz hin).1 (hf.sz hin).2 (h.bel hV))
 have HCH:=Lib.hid (fun V (hV:Bel w V)=>echeck_any e vc vk vu vo vn vs V (hg.bel hV) (h.bel hV))
 have HDE:=Lib.hid (fun (hr:rightE e=true) v V (hV:Bel w V) (hb:BsAt V v (encE e))=>edecode_any v (encE e) (by have:=encE_len hr hin.wf;omega) V (hg.bel hV) hb)
 have HPL:Hid (rightE e=true→decE (encE e)=some e):=Lib.hid (fun hr=>decE_enc hr hin.wf)
 have HSM:=Lib.hid (fun v1 v2 v3 v4 v5 v6 V (hV:Bel w V) (hy:EvAt V v1 v2 v3 v4 v5 v6 e)=>r8Same_any e e vc vk vu vo vn vs v1 v2 v3 v4 v5 v6 V (h.bel hV) hy)
 rw [show sameE e e=true by rw [sameE_is];simp] at HSM
 obtain ⟨Ac,cc,Ak,ck,Au,cu,Ao,co,An,cn,As,cs,rfl,rfl,rfl,rfl,rfl,rfl⟩:=h.opened
 unfold evV at HF HEN HRE HCH HSM ⊢
 clear hg h hin
 go_enter Tryz.func3,Tryz.ntmps3
 go_wp2_with fail
 refine (HF.out _ hb0).mono ?_
 rintro e1 w1 ⟨bf,rfl,hfw,hb1⟩
 obtain ⟨q0,q1,q2,q3,q4,q5,q6,q7⟩:=HC.out w1 hb1
 have HB1:=Lib.hid (hb0.then_ hb1)
 cases bf with
 | false =>
   clear HEN HRE HCH HDE HPL HSM HF hfw
   go_wp2_with (go_at_call 10;refine (HW.out _ HB1.out).mono ?_;rintro e9 w9 ⟨rfl,hb9⟩)
   go_ret
   exact ⟨rfl,HB1.out.then_ hb9⟩
 | true =>
   have HRE:=Lib.hid (HRE.out (hfw rfl))
   clear HF hfw
   have henc:encER e=if rightE e=true then (encE e,0) else ([],2):=rfl
   unfold GivesE8 at HRE
   generalize encER e=EE at HEN HRE henc
   obtain ⟨sE,nE⟩:=EE
   dsimp only at HEN HRE
   have HENC:=Lib.hid henc
   clear henc
   go_wp2_with fail
   refine (HEN.out _ HB1.out).mono ?_
   rintro e2 w2 ⟨v2,rfl,hv2,hb2⟩
   obtain ⟨q0,q1,q2,q3,q4,q5,q6,q7⟩:=HC.out w2 (hb1.then_ hb2)
   have HB2:=Lib.hid (HB1.out.then_ hb2)
   have HX2:=Lib.hid (hb1.then_ hb2)
   have HV2:=Lib.hid hv2
   obtain ⟨A2,c2,rfl,-⟩:=hv2
   clear hb1 hb2 HEN HB1
   go_wp2_with fail
   refine (HRE.out _ HB2.out).mono ?_
   rintro e3 w3 ⟨v3,rfl,hv3,hb3⟩
   obtain ⟨q0,q1,q2,q3,q4,q5,q6,q7⟩:=HC.out w3 (HX2.out.then_ hb3)
   have HB3:=Lib.hid (HB2.out.then_ hb3)
   have HX3:=Lib.hid (HX2.out.then_ hb3)
   have HV2:=Lib.hid (HV2.out.bel hb3)
   have HV3:=Lib.hid hv3
   obtain ⟨A3,c3,rfl,-⟩:=hv3
   clear hb3 HRE HB2 HX2 hb0
   cases hr:rightE e with
   | false =>
     rw [hr] at HCH HENC
     simp only [Bool.false_eq_true,if_false] at HCH
     have hee:(sE,nE)=([],2):=HENC.out
     injection hee with h1 h2
     subst h1 h2
     have h2:=bs_conv HV2.out
     have h3:=bs_conv HV3.out
     simp only [List.length_nil] at h2 h3
     clear HENC
     clear HDE HPL HSM HV2 HV3 hr
     go_wp2_with (first | (go_at_call 14;refine (HCH.out _ HB3.out).mono ?_;rintro e4 w4 ⟨rfl,hb4⟩;have HB4:=Lib.hid (HB3.out.then_ hb4)) | (go_at_call 13;refine (l8num_any _ _).mono ?_;rintro e w' ⟨rfl,rfl⟩) | (go_at_call 10;refine (HW.out _ HB4.out).mono ?_;rintro e9 w9 ⟨rfl,hb9⟩))
     go_ret
     exact ⟨rfl,HB4.out.then_ hb9⟩
   | true =>
     have hpl:=HPL.out hr
     have HDE:=Lib.hid (HDE.out hr)
     rw [hr] at HCH HENC
     simp only [if_true] at HCH
     rw [hpl] at HDE
     have hee:(sE,nE)=(encE e,0):=HENC.out
     injection hee with h1 h2
     rw [← h1] at HDE
     subst h2
     have h2:=bs_conv HV2.out
     have h3:=bs_conv HV3.out
     clear HENC h1
     clear HPL HV3 hr hpl
     go_wp2_with (first | (go_at_call 14;refine (HCH.out _ HB3.out).mono ?_;rintro e4 w4 ⟨rfl,hb4⟩;have HB4:=Lib.hid (HB3.out.then_ hb4);have HX4:=Lib.hid (HX3.out.then_ hb4);have HV4:=Lib.hid (HV2.out.bel hb4)) | (go_at_call 13;refine (l8num_any _ _).mono ?_;rintro e w' ⟨rfl,rfl⟩))
     refine (HDE.out _ _ HB4.out HV4.out).mono ?_
     rintro e5 w5 ⟨v1,v2',v3',v4,v5,v6,rfl,hin5,hb5⟩
     obtain ⟨B1,d1,B2,d2,B3,d3,B4,d4,B5,d5,B6,d6,rfl,rfl,rfl,rfl,rfl,rfl⟩:=hin5.at_.opened
     have HSX:=Lib.hid (HSM.out _ _ _ _ _ _ (w5.alloc (.cells #[.int .i64 e.k,.string e.t,.slice B1 e.c.length d1,.slice B2 e.ky.length d2,.slice B3 e.u.length d3,.slice B4 e.o.length d4,.slice B5 e.n.length d5,.slice B6 e.ns.length d6] 31)) ((HB4.out.then_ hb5).alloc _) (hin5.at_.bel ((Bel.refl w5).alloc _)))
     unfold evV at HSX
     have HB5:=Lib.hid ((HB4.out.then_ hb5).alloc (.cells #[.int .i64 e.k,.string e.t,.slice B1 e.c.length d1,.slice B2 e.ky.length d2,.slice B3 e.u.length d3,.slice B4 e.o.length d4,.slice B5 e.n.length d5,.slice B6 e.ns.length d6] 31))
     obtain ⟨q0,q1,q2,q3,q4,q5,q6,q7⟩:=HC.out w5 (HX4.out.then_ hb5)
     have hl5:w.heap.size<w5.heap.size:=by have:=(HX4.out.then_ hb5).size;rw [World.size_alloc] at this;omega
     clear hb5 hb4 hin5 HDE HCH HSM HV2 HV4 h2 h3
     unfold evV
     go_wp2_with fail
     refine (HSX.out).mono ?_
     rintro e6 w6 ⟨rfl,hb6⟩
     have HB6:=Lib.hid (HB5.out.then_ hb6)
     go_wp2_with (first | (go_at_call 13;refine (l8num_any _ _).mono ?_;rintro e w' ⟨rfl,rfl⟩) | (go_at_call 10;refine (HW.out _ HB6.out).mono ?_;rintro e9 w9 ⟨rfl,hb9⟩))
     go_ret
     exact ⟨rfl,HB6.out.then_ hb9⟩
end
end Go.Proofs.YtnajjhgbombboaaGreatDoor
