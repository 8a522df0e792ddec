/-
  Texts behind the statement: part 44.
-/
import Derived.Test.YtnajjhgbombboaaGreatDoorP30
set_option linter.unusedVariables false
set_option linter.unusedSimpArgs false
namespace Go.Proofs.YtnajjhgbombboaaGreatDoor
section
open Go.RowKit Go.Shelf Go.Lib
attribute [local go_sem] Oper.semAt_some
def sameEs (a b:List Ev):Bool:=decide (a=b)
set_option maxRecDepth 100000 in
set_option maxHeartbeats 4000000 in
theorem r8SameAll_any (va vb:Value) (a b:List Ev) (w:World) (ha:EventsAt w va a) (hb:EventsAt w vb b):Calls Tryz.prog 21 #[va,vb] w fun e w'=>e = .returned (.bool (sameEs a b))∧Bel w w':=by
 obtain ⟨R,hR⟩ : ∃ R,R=sameEs a b:=⟨_,rfl⟩
 rw [← hR]
 have HR:Hid (R=decide (a=b)):=Lib.hid hR
 clear hR
 obtain ⟨Aa,ca,rfl,hca,hma,hra⟩:=ha
 obtain ⟨Ab,cb,rfl,hcb,hmb,hrb⟩:=hb
 have haI:(a.length:Int)≤9223372036854775807:=by unfold maxLen at hma;omega
 have hbI:(b.length:Int)≤9223372036854775807:=by unfold maxLen at hmb;omega
 have HRA:=Lib.hid hra
 have HRB:=Lib.hid hrb
 clear hra hrb hma hmb hca hcb
 by_cases hab:a.length=b.length
 ·have habI:((a.length:Int) != b.length)=false:=by rw [bne_eq_false_iff_eq];omega
  have HAB:=Lib.hid hab
  clear hab
  go_enter Tryz.func21,Tryz.ntmps21
  go_wp2
  go_loopw [5] (fun i wr=>∃ k:Nat,k≤a.length∧i = .int .i64 k∧Hid (Bel w wr)∧Hid (a.take k=b.take k)) (fun i _=>a.length - (intOf i).toNat)
  case atStart=>exact ⟨0,Nat.zero_le _,rfl,Bel.refl w,by show _=_;simp⟩
  case round =>
   obtain ⟨k,hk,rfl,HB,HT⟩:=hrel
   by_cases hlt:k<a.length
   ·obtain ⟨x,hx⟩ : ∃ x,a[k]? = some x:=⟨_,List.getElem?_eq_getElem hlt⟩
    obtain ⟨y,hy⟩ : ∃ y,b[k]? = some y:=⟨_,List.getElem?_eq_getElem (by have:=HAB.out;omega)⟩
    obtain ⟨ba,oa,rfl,hai⟩:=HRA.out (by omega)
    obtain ⟨bb,ob,rfl,hbi⟩:=HRB.out (by have:=HAB.out;omega)
    obtain ⟨xvc,xvk,xvu,xvo,xvn,xvs,hxe,xp⟩:=hai k x hx
    obtain ⟨yvc,yvk,yvu,yvo,yvn,yvs,hye,yp⟩:=hbi k y hy
    have hkI:(k:Int)<a.length:=by omega
    have hkJ:(k:Int)<b.length:=by have:=HAB.out;omega
    have HNX:Hid (x=y→a.take (k+1)=b.take (k+1)):=fun e=>by rw [List.take_add_one,List.take_add_one,hx,hy,HT.out,e]
    have HNO:Hid (¬ x=y→R=false):=fun e=>by rw [HR.out];exact decide_eq_false (fun h=>e (by rw [h,hy] at hx;exact (Option.some.inj hx).symm))
    have HLT:=Lib.hid hlt
    have HCE:Hid (∀ V,Bel wr V→(V.cell? ⟨ba,oa+k * 8,none⟩=some (.int .i64 x.k)∧V.cell? ⟨ba,oa+k * 8+1,none⟩=some (.string x.t)∧V.cell? ⟨ba,oa+k * 8+2,none⟩=some xvc∧V.cell? ⟨ba,oa+k * 8+3,none⟩=some xvk∧V.cell? ⟨ba,oa+k * 8+4,none⟩=some xvu∧V.cell? ⟨ba,oa+k * 8+5,none⟩=some xvo∧V.cell? ⟨ba,oa+k * 8+6,none⟩=some xvn∧V.cell? ⟨ba,oa+k * 8+7,none⟩=some xvs)∧(V.cell? ⟨bb,ob+k * 8,none⟩=some (.int .i64 y.k)∧V.cell? ⟨bb,ob+k * 8+1,none⟩=some (.string y.t)∧V.cell? ⟨bb,ob+k * 8+2,none⟩=some yvc∧V.cell? ⟨bb,ob+k * 8+3,none⟩=some yvk∧V.cell? ⟨bb,ob+k * 8+4,none⟩=some yvu∧V.cell? ⟨bb,ob+k * 8+5,none⟩=some yvo∧V.cell? ⟨bb,ob+k * 8+6,none⟩=some yvn∧V.cell? ⟨bb,ob+k * 8+7,none⟩=some yvs)) :=
     Lib.hid (fun V hV=>by
      obtain ⟨x0,x1,x2,x3,x4,x5,x6,x7⟩:=xp
      obtain ⟨y0,y1,y2,y3,y4,y5,y6,y7⟩:=yp
      have h:=HB.out.then_ hV
      exact ⟨⟨h.c x0,h.c x1,h.c x2,h.c x3,h.c x4,h.c x5,h.c x6,h.c x7⟩,⟨h.c y0,h.c y1,h.c y2,h.c y3,h.c y4,h.c y5,h.c y6,h.c y7⟩⟩)
    have HSM:=Lib.hid (fun V (hV:Bel w V)=>r8Same_any x y xvc xvk xvu xvo xvn xvs yvc yvk yvu yvo yvn yvs V (hxe.bel hV) (hye.bel hV))
    obtain ⟨S,hS⟩ : ∃ S,S=sameE x y:=⟨_,rfl⟩
    rw [← hS] at HSM
    have HSX:Hid (S=decide (x=y)):=by rw [hS];exact sameE_is x y
    clear hS
    unfold evV at HSM
    clear hx hy hai hbi hlt hxe hye xp yp
    go_wp2_with fail
    refine wp_region_noPanic ?_
    refine wp_region_held_drew (S:=(fun V:World=>(V.cell? ⟨ba,oa+k * 8,none⟩=some (.int .i64 x.k)∧V.cell? ⟨ba,oa+k * 8+1,none⟩=some (.string x.t)∧V.cell? ⟨ba,oa+k * 8+2,none⟩=some xvc∧V.cell? ⟨ba,oa+k * 8+3,none⟩=some xvk∧V.cell? ⟨ba,oa+k * 8+4,none⟩=some xvu∧V.cell? ⟨ba,oa+k * 8+5,none⟩=some xvo∧V.cell? ⟨ba,oa+k * 8+6,none⟩=some xvn∧V.cell? ⟨ba,oa+k * 8+7,none⟩=some xvs)∧(V.cell? ⟨bb,ob+k * 8,none⟩=some (.int .i64 y.k)∧V.cell? ⟨bb,ob+k * 8+1,none⟩=some (.string y.t)∧V.cell? ⟨bb,ob+k * 8+2,none⟩=some yvc∧V.cell? ⟨bb,ob+k * 8+3,none⟩=some yvk∧V.cell? ⟨bb,ob+k * 8+4,none⟩=some yvu∧V.cell? ⟨bb,ob+k * 8+5,none⟩=some yvo∧V.cell? ⟨bb,ob+k * 8+6,none⟩=some yvn∧V.cell? ⟨bb,ob+k * 8+7,none⟩=some yvs))) (by kernel_rfl) ?_ (fun hHr3_0=>?_)
    ·(try dsimp only);(first | exact HCE.out _ (Bel.refl wr).drew | exact HCE.out _ ((Bel.refl wr).drew.then_ H9.out.2))
    refine tk 0 ?_
    refine tk 1 ?_
    refine tk 2 ?_
    refine tk 3 ?_
    refine tk 4 ?_
    refine tk 5 ?_
    refine tk 6 ?_
    refine tk 7 ?_
    refine rd1 8 (fun K hK=>?_)
    go_simp
    (go_at_call 16;refine (HSM.out _ (HB.out.then_ (Bel.refl wr).drew)).mono ?_;rintro e w9 ⟨rfl,hb9⟩;have H9:=Lib.hid (And.intro trivial hb9);clear hb9)
    try (go_wp2_with fail)
    refine hK.out _ _ ?_ (fun hHr3_1=>?_)
    ·(try dsimp only);(first | exact HCE.out _ (Bel.refl wr).drew | exact HCE.out _ ((Bel.refl wr).drew.then_ H9.out.2))
    clear hK K hHr3_0
    try simp only [tkp0,tkp1,tkp2,tkp3,tkp4,tkp5,tkp6,tkp7]
    refine tk 9 ?_
    refine wpAnyH_done (by kernel_rfl) ?_ _
    refine NoPanic.normal ?_
    have H9b:=Lib.hid (HB.out.then_ ((Bel.refl wr).drew.then_ H9.out.2))
    cases S with
    | true =>
      have ht:=Lib.hid (HNX.out (of_decide_eq_true HSX.out.symm))
      go_wp2
      go_roundw
      case rel=>exact ⟨k+1,HLT.out,by go_num,H9b.out,ht.out⟩
      case measure=>have:=HLT.out;simp [intOf];omega
    | false =>
      have hf:=HNO.out (of_decide_eq_false HSX.out.symm)
      go_wp2
      go_ret
      exact ⟨by first | rfl | (rw [hf];rfl),H9b.out⟩
   ·obtain rfl:k=a.length:=by omega
    have ht:R=true:=by
     rw [HR.out]
     have:=HT.out
     rw [List.take_length,HAB.out,List.take_length] at this
     exact decide_eq_true this
    clear HT hlt hk
    go_wp2
    go_ret
    exact ⟨by first | rfl | (rw [ht];rfl),HB.out⟩
 ·have hf:R=false:=by rw [HR.out];exact decide_eq_false (fun e=>hab (by rw [e]))
  have habI:((a.length:Int) != b.length)=true:=by rw [bne_iff_ne];omega
  go_enter Tryz.func21,Tryz.ntmps21
  go_wp2
  go_ret
  exact ⟨by first | rfl | (rw [hf];rfl),by (repeat (first | exact Below.refl _ _ | assumption | exact Bel.refl _ | refine Bel.alloc ?_ _ | refine Bel.drew ?_ | refine Bel.drewN ?_ _ | refine Bel.then_ ?_ (by assumption) | refine Bel.setCell ?_ (by first | (simp;done) | (simp;omega)) _))⟩
end
end Go.Proofs.YtnajjhgbombboaaGreatDoor
