/-
  Texts behind the statement: part 25.
-/
import Derived.Test.YtnajjhgbombboaaGreatDoorP24
set_option linter.unusedVariables false
set_option linter.unusedSimpArgs false
namespace Go.Proofs.YtnajjhgbombboaaGreatDoor
section
open Go.RowKit Go.Shelf Go.Lib
attribute [local go_sem] Oper.semAt_some
set_option maxRecDepth 100000 in
set_option maxHeartbeats 4000000 in
theorem slEqualFuncInts_any (va vb:Value) (a b:List (List Int)) (w:World) (ha:ListsAt w va a) (hb:ListsAt w vb b):Calls Tryz.prog 122 #[va,vb,.func (.func 83) #[] #[]] w fun e w'=>e = .returned (.bool (decide (a=b)))∧Bel w w':=by
 have eg : ∀ args w,(callFunc 83 args).run Tryz.prog w = .ok (.enter 83 args) w:=enters_of Tryz.func83 (by kernel_rfl) rfl
 obtain ⟨R,hR⟩ : ∃ R,R=decide (a=b):=⟨_,rfl⟩
 rw [← hR]
 have HR:=Lib.hid hR
 clear hR
 obtain ⟨Aa,ca,rfl,hca,hma,hra⟩:=ha
 obtain ⟨Ab,cb,rfl,hcb,hmb,hrb⟩:=hb
 have haI:(a.length:Int)≤9223372036854775807:=by unfold maxLen at hma;omega
 have hbI:(b.length:Int)≤9223372036854775807:=by unfold maxLen at hmb;omega
 have HRA:=Lib.hid hra
 have HRB:=Lib.hid hrb
 clear hra hrb hma hmb hca hcb
 by_cases hab:a.length=b.length
 ·have habI:((a.length:Int) != b.length)=false:=by rw [bne_eq_false_iff_eq];omega
  have HAB:=Lib.hid hab
  clear hab
  go_enter Tryz.func122,Tryz.ntmps122
  go_wp2
  go_loopw [17] (fun i wr=>∃ k:Nat,k≤a.length∧i = .int .i64 k∧Hid (Bel w wr)∧Hid (a.take k=b.take k)) (fun i _=>a.length - (intOf i).toNat)
  case atStart=>exact ⟨0,Nat.zero_le _,rfl,Bel.refl w,by show _=_;simp⟩
  case round =>
   obtain ⟨k,hk,rfl,HB,HT⟩:=hrel
   by_cases hlt:k<a.length
   ·obtain ⟨x,hx⟩ : ∃ x,a[k]? = some x:=⟨_,List.getElem?_eq_getElem hlt⟩
    obtain ⟨y,hy⟩ : ∃ y,b[k]? = some y:=⟨_,List.getElem?_eq_getElem (by have:=HAB.out;omega)⟩
    obtain ⟨ba,oa,rfl,hai⟩:=HRA.out (by omega)
    obtain ⟨bb,ob,rfl,hbi⟩:=HRB.out (by have:=HAB.out;omega)
    obtain ⟨u,hu0,hu1⟩:=hai k x hx
    obtain ⟨v,hv0,hv1⟩:=hbi k y hy
    have p0:=HB.out.c hu0
    have p1:=HB.out.c hv0
    have hkI:(k:Int)<a.length:=by omega
    have hkJ:(k:Int)<b.length:=by have:=HAB.out;omega
    have HNX:Hid (x=y→a.take (k+1)=b.take (k+1)):=fun e=>by rw [List.take_add_one,List.take_add_one,hx,hy,HT.out,e]
    have HNO:Hid (¬ x=y→R=false):=fun e=>by rw [HR.out];exact decide_eq_false (fun h=>e (by rw [h,hy] at hx;exact (Option.some.inj hx).symm))
    have HEQ:=Lib.hid (slEqualInt_any u v x y wr (hu1.bel HB.out) (hv1.bel HB.out))
    have HLT:=Lib.hid hlt
    clear hx hy hai hbi hlt hu0 hu1 hv0 hv1
    by_cases hxy:x=y
    ·have ht:=Lib.hid (HNX.out hxy)
     rw [decide_eq_true hxy] at HEQ
     clear hxy
     go_wp2_with (go_at_fn 83;refine HEQ.out.mono ?_;rintro e w4 ⟨rfl,hb4⟩)
     go_roundw
     case rel=>exact ⟨k+1,HLT.out,by go_num,HB.out.then_ hb4,ht.out⟩
     case measure=>have:=HLT.out;simp [intOf];omega
    ·have hf:=HNO.out hxy
     rw [decide_eq_false hxy] at HEQ
     clear hxy
     go_wp2_with (go_at_fn 83;refine HEQ.out.mono ?_;rintro e w4 ⟨rfl,hb4⟩)
     go_ret
     exact ⟨by first | rfl | (rw [hf];rfl),HB.out.then_ hb4⟩
   ·obtain rfl:k=a.length:=by omega
    have ht:R=true:=by
     rw [HR.out]
     have:=HT.out
     rw [List.take_length,HAB.out,List.take_length] at this
     exact decide_eq_true this
    clear HT hlt hk
    go_wp2
    go_ret
    exact ⟨by first | rfl | (rw [ht];rfl),HB.out⟩
 ·have hf:R=false:=by rw [HR.out];exact decide_eq_false (fun e=>hab (by rw [e]))
  have habI:((a.length:Int) != b.length)=true:=by rw [bne_iff_ne];omega
  go_enter Tryz.func122,Tryz.ntmps122
  go_wp2
  go_ret
  exact ⟨by first | rfl | (rw [hf];rfl),by (repeat (first | exact Below.refl _ _ | assumption | exact Bel.refl _ | refine Bel.alloc ?_ _ | refine Bel.drew ?_ | refine Bel.drewN ?_ _ | refine Bel.then_ ?_ (by assumption) | refine Bel.setCell ?_ (by first | (simp;done) | (simp;omega)) _))⟩
end
section
open Go.RowKit Go.Shelf Go.Lib
attribute [local go_sem] Oper.semAt_some
theorem col_ne (x y:Col) (w:World):(binOp .neq 67 x.v y.v).run Tryz.prog w = .ok (.bool (decide (x ≠ y))) w:=by
 obtain ⟨a,b,c,d⟩:=x
 obtain ⟨a',b',c',d'⟩:=y
 unfold Col.v
 dsimp only
 go_simp
 simp only [bytes_eq_iff]
 by_cases h1:a=a' <;> by_cases h2:b=b' <;> by_cases h3:c=c' <;> cases d <;> cases d' <;> simp [h1,h2,h3]
set_option maxRecDepth 100000 in
set_option maxHeartbeats 4000000 in
theorem slEqualCol_any (va vb:Value) (a b:List Col) (w:World) (ha:ColsAt w va a) (hb:ColsAt w vb b):Calls Tryz.prog 82 #[va,vb] w fun e w'=>e = .returned (.bool (decide (a=b)))∧Bel w w':=by
 obtain ⟨R,hR⟩ : ∃ R,R=decide (a=b):=⟨_,rfl⟩
 rw [← hR]
 have HR:=Lib.hid hR
 clear hR
 obtain ⟨Aa,ca,rfl,hca,hma,hra⟩:=ha
 obtain ⟨Ab,cb,rfl,hcb,hmb,hrb⟩:=hb
 have haI:(a.length:Int)≤9223372036854775807:=by unfold maxLen at hma;omega
 have hbI:(b.length:Int)≤9223372036854775807:=by unfold maxLen at hmb;omega
 have HRA:=Lib.hid hra
 have HRB:=Lib.hid hrb
 clear hra hrb hma hmb hca hcb
 by_cases hab:a.length=b.length
 ·have habI:((a.length:Int) != b.length)=false:=by rw [bne_eq_false_iff_eq];omega
  have HAB:=Lib.hid hab
  clear hab
  go_enter Tryz.func82,Tryz.ntmps82
  go_wp2
  go_loopw [13] (fun i wr=>∃ k:Nat,k≤a.length∧i = .int .i64 k∧Hid (Bel w wr)∧Hid (a.take k=b.take k)) (fun i _=>a.length - (intOf i).toNat)
  case atStart=>exact ⟨0,Nat.zero_le _,rfl,Bel.refl w,by show _=_;simp⟩
  case round =>
   obtain ⟨k,hk,rfl,HB,HT⟩:=hrel
   by_cases hlt:k<a.length
   ·obtain ⟨x,hx⟩ : ∃ x,a[k]? = some x:=⟨_,List.getElem?_eq_getElem hlt⟩
    obtain ⟨y,hy⟩ : ∃ y,b[k]? = some y:=⟨_,List.getElem?_eq_getElem (by have:=HAB.out;omega)⟩
    obtain ⟨ba,oa,rfl,hai⟩:=HRA.out (by omega)
    obtain ⟨bb,ob,rfl,hbi⟩:=HRB.out (by have:=HAB.out;omega)
    have p0:=HB.out.drew.c (hai k x hx).1
    have r0:=HB.out.drew.c (hbi k y hy).1
    have p1:=HB.out.drew.c (hai k x hx).2.1
    have r1:=HB.out.drew.c (hbi k y hy).2.1
    have p2:=HB.out.drew.c (hai k x hx).2.2.1
    have r2:=HB.out.drew.c (hbi k y hy).2.2.1
    have p3:=HB.out.drew.c (hai k x hx).2.2.2
    have r3:=HB.out.drew.c (hbi k y hy).2.2.2
    have hkI:(k:Int)<a.length:=by omega
    have hkJ:(k:Int)<b.length:=by have:=HAB.out;omega
    have HNX:Hid (x=y→a.take (k+1)=b.take (k+1)):=fun e=>by rw [List.take_add_one,List.take_add_one,hx,hy,HT.out,e]
    have HNO:Hid (¬ x=y→R=false):=fun e=>by rw [HR.out];exact decide_eq_false (fun h=>e (by rw [h,hy] at hx;exact (Option.some.inj hx).symm))
    have HLT:=Lib.hid hlt
    clear hx hy hai hbi hlt
    by_cases hxy:x=y
    ·have ht:=Lib.hid (HNX.out hxy)
     subst hxy
     have hne:=fun W=>col_ne x x W
     rw [decide_eq_false (by simp)] at hne
     unfold Col.v at hne
     go_wp2
     refine wp_region_noPanic ?_
     refine wp_region_held_drew (S:=(fun V:World=>V.cell? ⟨ba,oa+k * 4,none⟩=some (.string x.name)∧V.cell? ⟨ba,oa+k * 4+1,none⟩=some (.int .i64 x.t)∧V.cell? ⟨ba,oa+k * 4+2,none⟩=some (.int .i64 x.z)∧V.cell? ⟨ba,oa+k * 4+3,none⟩=some (.bool x.null)∧V.cell? ⟨bb,ob+k * 4,none⟩=some (.string x.name)∧V.cell? ⟨bb,ob+k * 4+1,none⟩=some (.int .i64 x.t)∧V.cell? ⟨bb,ob+k * 4+2,none⟩=some (.int .i64 x.z)∧V.cell? ⟨bb,ob+k * 4+3,none⟩=some (.bool x.null))) (by kernel_rfl) ?_ (fun hHr1_0=>?_)
     ·(try dsimp only);exact ⟨p0,p1,p2,p3,r0,r1,r2,r3⟩
     refine tk 0 ?_
     refine tk 1 ?_
     refine tk 2 ?_
     refine tk 3 ?_
     refine tk 4 ?_
     refine tk 5 ?_
     refine tk 6 ?_
     refine tk 7 ?_
     refine tk 8 ?_
     refine wpAnyH_done (by kernel_rfl) ?_ _
     refine NoPanic.normal ?_
     go_wp2
     go_roundw
     case rel=>exact ⟨k+1,HLT.out,by go_num,HB.out.drew,ht.out⟩
     case measure=>have:=HLT.out;simp [intOf];omega
    ·have hf:=HNO.out hxy
     have hne:=fun W=>col_ne x y W
     rw [decide_eq_true hxy] at hne
     unfold Col.v at hne
     go_wp2
     refine wp_region_noPanic ?_
     refine wp_region_held_drew (S:=(fun V:World=>V.cell? ⟨ba,oa+k * 4,none⟩=some (.string x.name)∧V.cell? ⟨ba,oa+k * 4+1,none⟩=some (.int .i64 x.t)∧V.cell? ⟨ba,oa+k * 4+2,none⟩=some (.int .i64 x.z)∧V.cell? ⟨ba,oa+k * 4+3,none⟩=some (.bool x.null)∧V.cell? ⟨bb,ob+k * 4,none⟩=some (.string y.name)∧V.cell? ⟨bb,ob+k * 4+1,none⟩=some (.int .i64 y.t)∧V.cell? ⟨bb,ob+k * 4+2,none⟩=some (.int .i64 y.z)∧V.cell? ⟨bb,ob+k * 4+3,none⟩=some (.bool y.null))) (by kernel_rfl) ?_ (fun hHr2_0=>?_)
     ·(try dsimp only);exact ⟨p0,p1,p2,p3,r0,r1,r2,r3⟩
     refine tk 0 ?_
     refine tk 1 ?_
     refine tk 2 ?_
     refine tk 3 ?_
     refine tk 4 ?_
     refine tk 5 ?_
     refine tk 6 ?_
     refine tk 7 ?_
     refine tk 8 ?_
     refine wpAnyH_done (by kernel_rfl) ?_ _
     refine NoPanic.normal ?_
     go_wp2
     go_ret
     exact ⟨by first | rfl | (rw [hf];rfl),HB.out.drew⟩
   ·obtain rfl:k=a.length:=by omega
    have ht:R=true:=by
     rw [HR.out]
     have:=HT.out
     rw [List.take_length,HAB.out,List.take_length] at this
     exact decide_eq_true this
    clear HT hlt hk
    go_wp2
    go_ret
    exact ⟨by first | rfl | (rw [ht];rfl),HB.out⟩
 ·have hf:R=false:=by rw [HR.out];exact decide_eq_false (fun e=>hab (by rw [e]))
  have habI:((a.length:Int) != b.length)=true:=by rw [bne_iff_ne];omega
  go_enter Tryz.func82,Tryz.ntmps82
  go_wp2
  go_ret
  exact ⟨by first | rfl | (rw [hf];rfl),by (repeat (first | exact Below.refl _ _ | assumption | exact Bel.refl _ | refine Bel.alloc ?_ _ | refine Bel.drew ?_ | refine Bel.drewN ?_ _ | refine Bel.then_ ?_ (by assumption) | refine Bel.setCell ?_ (by first | (simp;done) | (simp;omega)) _))⟩
end
section
open Go.RowKit Go.Shelf Go.Lib
attribute [local go_sem] Oper.semAt_some
theorem scsame_any (va vb:Value) (a b:List (List Int)) (w:World) (ha:ListsAt w va a) (hb:ListsAt w vb b):Calls Tryz.prog 84 #[va,vb,.func (.func 83) #[] #[]] w fun e w'=>e = .returned (.bool (decide (a=b)))∧Bel w w':=by
 have H:=Lib.hid (slEqualFuncInts_any va vb a b w ha hb)
 clear ha hb
 generalize decide (a=b)=R at *
 go_enter Tryz.func84,Tryz.ntmps84
 go_wp2_with (go_at_call 122;refine H.out.mono ?_;rintro e w4 ⟨rfl,hb4⟩)
 go_ret
 exact ⟨rfl,hb4⟩
def sameS (a b:List Col) (ka kb:List Int) (ua ub:List (List Int)):Bool:=decide (a=b) && (decide (ka=kb) && decide (ua=ub))
set_option maxRecDepth 100000 in
set_option maxHeartbeats 4000000 in
theorem scSame_any (va vka vua vb vkb vub:Value) (a b:List Col) (ka kb:List Int) (ua ub:List (List Int)) (w:World) (ha:ColsAt w va a) (hka:IntsAt w vka ka) (hua:ListsAt w vua ua) (hb:ColsAt w vb b) (hkb:IntsAt w vkb kb) (hub:ListsAt w vub ub) :
  Calls Tryz.prog 47 #[.agg #[va,vka,vua],.agg #[vb,vkb,vub]] w fun e w'=>e = .returned (.bool (sameS a b ka kb ua ub))∧Bel w w':=by
 have HA:=Lib.hid (fun V (h:Bel w V)=>slEqualCol_any va vb a b V (ha.bel h) (hb.bel h))
 have HK:=Lib.hid (fun V (h:Bel w V)=>slEqualInt_any vka vkb ka kb V (hka.bel h) (hkb.bel h))
 have HU:=Lib.hid (fun V (h:Bel w V)=>scsame_any vua vub ua ub V (hua.bel h) (hub.bel h))
 have hb0:Bel w ((w.alloc (.cells #[va,vka,vua] 27)).alloc (.cells #[vb,vkb,vub] 27)):=((Bel.refl w).alloc _).alloc _
 have HCL:Hid (∀ V,Bel ((w.alloc (.cells #[va,vka,vua] 27)).alloc (.cells #[vb,vkb,vub] 27)) V→V.cell? ⟨w.heap.size,1,none⟩=some vka∧V.cell? ⟨w.heap.size,2,none⟩=some vua∧V.cell? ⟨w.heap.size+1,1,none⟩=some vkb∧V.cell? ⟨w.heap.size+1,2,none⟩=some vub) :=
  fun V h=>⟨h.c (by go_simp),h.c (by go_simp),h.c (by go_simp),h.c (by go_simp)⟩
 unfold sameS
 clear ha hka hua hb hkb hub
 generalize decide (a=b)=ra at *
 generalize decide (ka=kb)=rk at *
 generalize decide (ua=ub)=ru at *
 cases ra
 ·go_enter Tryz.func47,Tryz.ntmps47
  go_wp2_with (go_at_call 82;refine (HA.out _ hb0).mono ?_;rintro e w4 ⟨rfl,hb4⟩)
  go_ret
  exact ⟨rfl,hb0.then_ hb4⟩
 ·cases rk
  ·go_enter Tryz.func47,Tryz.ntmps47
   go_wp2_with (go_at_call 82;refine (HA.out _ hb0).mono ?_;rintro e w4 ⟨rfl,hb4⟩;obtain ⟨c1,c2,c3,c4⟩:=HCL.out _ hb4;have hb5:=hb0.then_ hb4)
   go_wp2_with (go_at_call 83;refine (HK.out _ hb5).mono ?_;rintro e w6 ⟨rfl,hb6⟩)
   go_ret
   exact ⟨rfl,hb5.then_ hb6⟩
  ·go_enter Tryz.func47,Tryz.ntmps47
   go_wp2_with (go_at_call 82;refine (HA.out _ hb0).mono ?_;rintro e w4 ⟨rfl,hb4⟩;obtain ⟨c1,c2,c3,c4⟩:=HCL.out _ hb4;have hb5:=hb0.then_ hb4)
   go_wp2_with (go_at_call 83;refine (HK.out _ hb5).mono ?_;rintro e w6 ⟨rfl,hb6⟩;obtain ⟨d1,d2,d3,d4⟩:=HCL.out _ (hb4.then_ hb6);have hb7:=hb5.then_ hb6)
   go_wp2_with (go_at_call 84;refine (HU.out _ hb7).mono ?_;rintro e w8 ⟨rfl,hb8⟩)
   go_ret
   exact ⟨by cases ru <;> rfl,hb7.then_ hb8⟩
end
section
open Go.RowKit Go.Shelf Go.Lib
attribute [local go_sem] Oper.semAt_some
theorem pair_ne (x y:ByteArray×ByteArray) (w:World):(binOp .neq 68 (pairV x) (pairV y)).run Tryz.prog w = .ok (.bool (decide (x ≠ y))) w:=by
 obtain ⟨a,b⟩:=x
 obtain ⟨c,d⟩:=y
 unfold pairV
 dsimp only
 have h:=str2_eq a b c d 68 Tryz.underlying68 w
 go_simp
 by_cases h1:a=c <;> by_cases h2:b=d <;> simp [h1,h2,bytes_eq_iff]
set_option maxRecDepth 100000 in
set_option maxHeartbeats 4000000 in
theorem slEqualVal_any (va vb:Value) (a b:List Val) (w:World) (ha:ValsAt w va a) (hb:ValsAt w vb b):Calls Tryz.prog 85 #[va,vb] w fun e w'=>e = .returned (.bool (decide (a=b)))∧Bel w w':=by
 obtain ⟨R,hR⟩ : ∃ R,R=decide (a=b):=⟨_,rfl⟩
 rw [← hR]
 have HR:=Lib.hid hR
 clear hR
 obtain ⟨Aa,ca,rfl,hca,hma,hra⟩:=ha
 obtain ⟨Ab,cb,rfl,hcb,hmb,hrb⟩:=hb
 have haI:(a.length:Int)≤9223372036854775807:=by unfold maxLen at hma;omega
 have hbI:(b.length:Int)≤9223372036854775807:=by unfold maxLen at hmb;omega
 have HRA:=Lib.hid hra
 have HRB:=Lib.hid hrb
 clear hra hrb hma hmb hca hcb
 by_cases hab:a.length=b.length
 ·have habI:((a.length:Int) != b.length)=false:=by rw [bne_eq_false_iff_eq];omega
  have HAB:=Lib.hid hab
  clear hab
  go_enter Tryz.func85,Tryz.ntmps85
  go_wp2
  go_loopw [13] (fun i wr=>∃ k:Nat,k≤a.length∧i = .int .i64 k∧Hid (Bel w wr)∧Hid (a.take k=b.take k)) (fun i _=>a.length - (intOf i).toNat)
  case atStart=>exact ⟨0,Nat.zero_le _,rfl,Bel.refl w,by show _=_;simp⟩
  case round =>
   obtain ⟨k,hk,rfl,HB,HT⟩:=hrel
   by_cases hlt:k<a.length
   ·obtain ⟨x,hx⟩ : ∃ x,a[k]? = some x:=⟨_,List.getElem?_eq_getElem hlt⟩
    obtain ⟨y,hy⟩ : ∃ y,b[k]? = some y:=⟨_,List.getElem?_eq_getElem (by have:=HAB.out;omega)⟩
    obtain ⟨ba,oa,rfl,hai⟩:=HRA.out (by omega)
    obtain ⟨bb,ob,rfl,hbi⟩:=HRB.out (by have:=HAB.out;omega)
    have p0:=HB.out.drew.c (hai k x hx).1
    have r0:=HB.out.drew.c (hbi k y hy).1
    have p1:=HB.out.drew.c (hai k x hx).2.1
    have r1:=HB.out.drew.c (hbi k y hy).2.1
    have p2:=HB.out.drew.c (hai k x hx).2.2.1
    have r2:=HB.out.drew.c (hbi k y hy).2.2.1
    have p3:=HB.out.drew.c (hai k x hx).2.2.2
    have r3:=HB.out.drew.c (hbi k y hy).2.2.2
    have hkI:(k:Int)<a.length:=by omega
    have hkJ:(k:Int)<b.length:=by have:=HAB.out;omega
    have HNX:Hid (x=y→a.take (k+1)=b.take (k+1)):=fun e=>by rw [List.take_add_one,List.take_add_one,hx,hy,HT.out,e]
    have HNO:Hid (¬ x=y→R=false):=fun e=>by rw [HR.out];exact decide_eq_false (fun h=>e (by rw [h,hy] at hx;exact (Option.some.inj hx).symm))
    have HLT:=Lib.hid hlt
    clear hx hy hai hbi hlt
    by_cases hxy:x=y
    ·have ht:=Lib.hid (HNX.out hxy)
     subst hxy
     have hne:=fun W=>val_ne x x W
     rw [decide_eq_false (by simp)] at hne
     unfold Val.v at hne
     go_wp2
     refine wp_region_noPanic ?_
     refine wp_region_held_drew (S:=(fun V:World=>V.cell? ⟨ba,oa+k * 4,none⟩=some (.int .i64 x.k)∧V.cell? ⟨ba,oa+k * 4+1,none⟩=some (.int .i64 x.n)∧V.cell? ⟨ba,oa+k * 4+2,none⟩=some (.int .u64 x.u)∧V.cell? ⟨ba,oa+k * 4+3,none⟩=some (.string x.b)∧V.cell? ⟨bb,ob+k * 4,none⟩=some (.int .i64 x.k)∧V.cell? ⟨bb,ob+k * 4+1,none⟩=some (.int .i64 x.n)∧V.cell? ⟨bb,ob+k * 4+2,none⟩=some (.int .u64 x.u)∧V.cell? ⟨bb,ob+k * 4+3,none⟩=some (.string x.b))) (by kernel_rfl) ?_ (fun hHr1_0=>?_)
     ·(try dsimp only);exact ⟨p0,p1,p2,p3,r0,r1,r2,r3⟩
     refine tk 0 ?_
     refine tk 1 ?_
     refine tk 2 ?_
     refine tk 3 ?_
     refine tk 4 ?_
     refine tk 5 ?_
     refine tk 6 ?_
     refine tk 7 ?_
     refine tk 8 ?_
     refine wpAnyH_done (by kernel_rfl) ?_ _
     refine NoPanic.normal ?_
     go_wp2
     go_roundw
     case rel=>exact ⟨k+1,HLT.out,by go_num,HB.out.drew,ht.out⟩
     case measure=>have:=HLT.out;simp [intOf];omega
    ·have hf:=HNO.out hxy
     have hne:=fun W=>val_ne x y W
     rw [decide_eq_true hxy] at hne
     unfold Val.v at hne
     go_wp2
     refine wp_region_noPanic ?_
     refine wp_region_held_drew (S:=(fun V:World=>V.cell? ⟨ba,oa+k * 4,none⟩=some (.int .i64 x.k)∧V.cell? ⟨ba,oa+k * 4+1,none⟩=some (.int .i64 x.n)∧V.cell? ⟨ba,oa+k * 4+2,none⟩=some (.int .u64 x.u)∧V.cell? ⟨ba,oa+k * 4+3,none⟩=some (.string x.b)∧V.cell? ⟨bb,ob+k * 4,none⟩=some (.int .i64 y.k)∧V.cell? ⟨bb,ob+k * 4+1,none⟩=some (.int .i64 y.n)∧V.cell? ⟨bb,ob+k * 4+2,none⟩=some (.int .u64 y.u)∧V.cell? ⟨bb,ob+k * 4+3,none⟩=some (.string y.b))) (by kernel_rfl) ?_ (fun hHr2_0=>?_)
     ·(try dsimp only);exact ⟨p0,p1,p2,p3,r0,r1,r2,r3⟩
     refine tk 0 ?_
     refine tk 1 ?_
     refine tk 2 ?_
     refine tk 3 ?_
     refine tk 4 ?_
     refine tk 5 ?_
     refine tk 6 ?_
     refine tk 7 ?_
     refine tk 8 ?_
     refine wpAnyH_done (by kernel_rfl) ?_ _
     refine NoPanic.normal ?_
     go_wp2
     go_ret
     exact ⟨by first | rfl | (rw [hf];rfl),HB.out.drew⟩
   ·obtain rfl:k=a.length:=by omega
    have ht:R=true:=by
     rw [HR.out]
     have:=HT.out
     rw [List.take_length,HAB.out,List.take_length] at this
     exact decide_eq_true this
    clear HT hlt hk
    go_wp2
    go_ret
    exact ⟨by first | rfl | (rw [ht];rfl),HB.out⟩
 ·have hf:R=false:=by rw [HR.out];exact decide_eq_false (fun e=>hab (by rw [e]))
  have habI:((a.length:Int) != b.length)=true:=by rw [bne_iff_ne];omega
  go_enter Tryz.func85,Tryz.ntmps85
  go_wp2
  go_ret
  exact ⟨by first | rfl | (rw [hf];rfl),by (repeat (first | exact Below.refl _ _ | assumption | exact Bel.refl _ | refine Bel.alloc ?_ _ | refine Bel.drew ?_ | refine Bel.drewN ?_ _ | refine Bel.then_ ?_ (by assumption) | refine Bel.setCell ?_ (by first | (simp;done) | (simp;omega)) _))⟩
set_option maxRecDepth 100000 in
set_option maxHeartbeats 4000000 in
theorem slEqualPair_any (va vb:Value) (a b:List (ByteArray×ByteArray)) (w:World) (ha:PairsAt w va a) (hb:PairsAt w vb b):Calls Tryz.prog 86 #[va,vb] w fun e w'=>e = .returned (.bool (decide (a=b)))∧Bel w w':=by
 obtain ⟨R,hR⟩ : ∃ R,R=decide (a=b):=⟨_,rfl⟩
 rw [← hR]
 have HR:=Lib.hid hR
 clear hR
 obtain ⟨Aa,ca,rfl,hca,hma,hra⟩:=ha
 obtain ⟨Ab,cb,rfl,hcb,hmb,hrb⟩:=hb
 have haI:(a.length:Int)≤9223372036854775807:=by unfold maxLen at hma;omega
 have hbI:(b.length:Int)≤9223372036854775807:=by unfold maxLen at hmb;omega
 have HRA:=Lib.hid hra
 have HRB:=Lib.hid hrb
 clear hra hrb hma hmb hca hcb
 by_cases hab:a.length=b.length
 ·have habI:((a.length:Int) != b.length)=false:=by rw [bne_eq_false_iff_eq];omega
  have HAB:=Lib.hid hab
  clear hab
  go_enter Tryz.func86,Tryz.ntmps86
  go_wp2
  go_loopw [13] (fun i wr=>∃ k:Nat,k≤a.length∧i = .int .i64 k∧Hid (Bel w wr)∧Hid (a.take k=b.take k)) (fun i _=>a.length - (intOf i).toNat)
  case atStart=>exact ⟨0,Nat.zero_le _,rfl,Bel.refl w,by show _=_;simp⟩
  case round =>
   obtain ⟨k,hk,rfl,HB,HT⟩:=hrel
   by_cases hlt:k<a.length
   ·obtain ⟨x,hx⟩ : ∃ x,a[k]? = some x:=⟨_,List.getElem?_eq_getElem hlt⟩
    obtain ⟨y,hy⟩ : ∃ y,b[k]? = some y:=⟨_,List.getElem?_eq_getElem (by have:=HAB.out;omega)⟩
    obtain ⟨ba,oa,rfl,hai⟩:=HRA.out (by omega)
    obtain ⟨bb,ob,rfl,hbi⟩:=HRB.out (by have:=HAB.out;omega)
    have p0:=HB.out.drew.c (hai k x hx).1
    have r0:=HB.out.drew.c (hbi k y hy).1
    have p1:=HB.out.drew.c (hai k x hx).2
    have r1:=HB.out.drew.c (hbi k y hy).2
    have hkI:(k:Int)<a.length:=by omega
    have hkJ:(k:Int)<b.length:=by have:=HAB.out;omega
    have HNX:Hid (x=y→a.take (k+1)=b.take (k+1)):=fun e=>by rw [List.take_add_one,List.take_add_one,hx,hy,HT.out,e]
    have HNO:Hid (¬ x=y→R=false):=fun e=>by rw [HR.out];exact decide_eq_false (fun h=>e (by rw [h,hy] at hx;exact (Option.some.inj hx).symm))
    have HLT:=Lib.hid hlt
    clear hx hy hai hbi hlt
    by_cases hxy:x=y
    ·have ht:=Lib.hid (HNX.out hxy)
     subst hxy
     have hne:=fun W=>pair_ne x x W
     rw [decide_eq_false (by simp)] at hne
     unfold pairV at hne
     go_wp2
     refine wp_region_noPanic ?_
     refine wp_region_held_drew (S:=(fun V:World=>V.cell? ⟨ba,oa+k * 2,none⟩=some (.string x.1)∧V.cell? ⟨ba,oa+k * 2+1,none⟩=some (.string x.2)∧V.cell? ⟨bb,ob+k * 2,none⟩=some (.string x.1)∧V.cell? ⟨bb,ob+k * 2+1,none⟩=some (.string x.2))) (by kernel_rfl) ?_ (fun hHr3_0=>?_)
     ·(try dsimp only);exact ⟨p0,p1,r0,r1⟩
     refine tk 0 ?_
     refine tk 1 ?_
     refine tk 2 ?_
     refine tk 3 ?_
     refine tk 4 ?_
     refine tk 5 ?_
     refine tk 6 ?_
     refine tk 7 ?_
     refine tk 8 ?_
     refine wpAnyH_done (by kernel_rfl) ?_ _
     refine NoPanic.normal ?_
     go_wp2
     go_roundw
     case rel=>exact ⟨k+1,HLT.out,by go_num,HB.out.drew,ht.out⟩
     case measure=>have:=HLT.out;simp [intOf];omega
    ·have hf:=HNO.out hxy
     have hne:=fun W=>pair_ne x y W
     rw [decide_eq_true hxy] at hne
     unfold pairV at hne
     go_wp2
     refine wp_region_noPanic ?_
     refine wp_region_held_drew (S:=(fun V:World=>V.cell? ⟨ba,oa+k * 2,none⟩=some (.string x.1)∧V.cell? ⟨ba,oa+k * 2+1,none⟩=some (.string x.2)∧V.cell? ⟨bb,ob+k * 2,none⟩=some (.string y.1)∧V.cell? ⟨bb,ob+k * 2+1,none⟩=some (.string y.2))) (by kernel_rfl) ?_ (fun hHr4_0=>?_)
     ·(try dsimp only);exact ⟨p0,p1,r0,r1⟩
     refine tk 0 ?_
     refine tk 1 ?_
     refine tk 2 ?_
     refine tk 3 ?_
     refine tk 4 ?_
     refine tk 5 ?_
     refine tk 6 ?_
     refine tk 7 ?_
     refine tk 8 ?_
     refine wpAnyH_done (by kernel_rfl) ?_ _
     refine NoPanic.normal ?_
     go_wp2
     go_ret
     exact ⟨by first | rfl | (rw [hf];rfl),HB.out.drew⟩
   ·obtain rfl:k=a.length:=by omega
    have ht:R=true:=by
     rw [HR.out]
     have:=HT.out
     rw [List.take_length,HAB.out,List.take_length] at this
     exact decide_eq_true this
    clear HT hlt hk
    go_wp2
    go_ret
    exact ⟨by first | rfl | (rw [ht];rfl),HB.out⟩
 ·have hf:R=false:=by rw [HR.out];exact decide_eq_false (fun e=>hab (by rw [e]))
  have habI:((a.length:Int) != b.length)=true:=by rw [bne_iff_ne];omega
  go_enter Tryz.func86,Tryz.ntmps86
  go_wp2
  go_ret
  exact ⟨by first | rfl | (rw [hf];rfl),by (repeat (first | exact Below.refl _ _ | assumption | exact Bel.refl _ | refine Bel.alloc ?_ _ | refine Bel.drew ?_ | refine Bel.drewN ?_ _ | refine Bel.then_ ?_ (by assumption) | refine Bel.setCell ?_ (by first | (simp;done) | (simp;omega)) _))⟩
theorem ealikeV_any (va vb:Value) (a b:List Val) (w:World) (ha:ValsAt w va a) (hb:ValsAt w vb b):Calls Tryz.prog 48 #[va,vb] w fun e w'=>e = .returned (.bool (decide (a=b)))∧Bel w w':=by
 have HE:=Lib.hid (slEqualVal_any va vb a b w ha hb)
 obtain ⟨R,hR⟩ : ∃ R,R=decide (a=b):=⟨_,rfl⟩
 rw [← hR] at HE ⊢
 obtain ⟨Aa,ca,rfl,-⟩:=ha
 obtain ⟨Ab,cb,rfl,-⟩:=hb
 clear hR
 go_enter Tryz.func48,Tryz.ntmps48
 go_wp2_with fail
 refine HE.out.mono ?_
 rintro e w1 ⟨rfl,hb1⟩
 go_wp2
 go_ret
 exact ⟨rfl,hb1⟩
theorem ealikeN_any (va vb:Value) (a b:List (ByteArray×ByteArray)) (w:World) (ha:PairsAt w va a) (hb:PairsAt w vb b):Calls Tryz.prog 49 #[va,vb] w fun e w'=>e = .returned (.bool (decide (a=b)))∧Bel w w':=by
 have HE:=Lib.hid (slEqualPair_any va vb a b w ha hb)
 obtain ⟨R,hR⟩ : ∃ R,R=decide (a=b):=⟨_,rfl⟩
 rw [← hR] at HE ⊢
 obtain ⟨Aa,ca,rfl,-⟩:=ha
 obtain ⟨Ab,cb,rfl,-⟩:=hb
 clear hR
 go_enter Tryz.func49,Tryz.ntmps49
 go_wp2_with fail
 refine HE.out.mono ?_
 rintro e w1 ⟨rfl,hb1⟩
 go_wp2
 go_ret
 exact ⟨rfl,hb1⟩
end
section
open Go.RowKit Go.Shelf Go.Lib
attribute [local go_sem] Oper.semAt_some
def sameE (x y:Ev):Bool:=decide (x.k=y.k) && (decide (x.t=y.t) && (sameS x.c y.c x.ky y.ky x.u y.u && (decide (x.o=y.o) && (decide (x.n=y.n) && decide (x.ns=y.ns)))))
theorem sameE_is (x y:Ev):sameE x y=decide (x=y):=by
 obtain ⟨k,t,c,ky,u,o,n,ns⟩:=x
 obtain ⟨k',t',c',ky',u',o',n',ns'⟩:=y
 unfold sameE sameS
 dsimp only
 rw [Bool.eq_iff_iff]
 simp
 intro _ _
 exact ⟨fun ⟨⟨a,b,c⟩,d⟩=>⟨a,b,c,d⟩,fun ⟨a,b,c,d⟩=>⟨⟨a,b,c⟩,d⟩⟩
set_option maxRecDepth 100000 in
set_option maxHeartbeats 4000000 in
theorem eSame_any (x y:Ev) (vc vk vu vo vn vs vc' vk' vu' vo' vn' vs':Value) (w:World) (hx:EvAt w vc vk vu vo vn vs x) (hy:EvAt w vc' vk' vu' vo' vn' vs' y) :
  Calls Tryz.prog 18 #[evV x.k x.t vc vk vu vo vn vs,evV y.k y.t vc' vk' vu' vo' vn' vs'] w fun e w'=>e = .returned (.bool (sameE x y))∧Bel w w':=by
 have HS:=Lib.hid (fun V (hb:Bel w V)=>scSame_any vc vk vu vc' vk' vu' x.c y.c x.ky y.ky x.u y.u V (hx.c.bel hb) (hx.ky.bel hb) (hx.u.bel hb) (hy.c.bel hb) (hy.ky.bel hb) (hy.u.bel hb))
 have HO:=Lib.hid (fun V (hb:Bel w V)=>ealikeV_any vo vo' x.o y.o V (hx.o.bel hb) (hy.o.bel hb))
 have HN:=Lib.hid (fun V (hb:Bel w V)=>ealikeV_any vn vn' x.n y.n V (hx.n.bel hb) (hy.n.bel hb))
 have HP:=Lib.hid (fun V (hb:Bel w V)=>ealikeN_any vs vs' x.ns y.ns V (hx.ns.bel hb) (hy.ns.bel hb))
 obtain ⟨Acx,ccx,Akyx,ckyx,Aux,cux,Aox,cox,Anx,cnx,Ansx,cnsx,rfl,rfl,rfl,rfl,rfl,rfl⟩:=hx.opened
 obtain ⟨Acy,ccy,Akyy,ckyy,Auy,cuy,Aoy,coy,Any,cny,Ansy,cnsy,rfl,rfl,rfl,rfl,rfl,rfl⟩:=hy.opened
 clear hx hy
 obtain ⟨R,hR⟩ : ∃ R,R=sameE x y:=⟨_,rfl⟩
 rw [← hR]
 obtain ⟨kx,tx,cx,kyx,ux,ox,nx,nsx⟩:=x
 obtain ⟨ky,ty,cy,kyy,uy,oy,ny,nsy⟩:=y
 unfold evV
 unfold sameE at hR
 dsimp only at *
 generalize sameS cx cy kyx kyy ux uy=S3 at HS hR
 generalize decide (ox=oy)=S4 at HO hR
 generalize decide (nx=ny)=S5 at HN hR
 generalize decide (nsx=nsy)=S6 at HP hR
 have hal:Bel w ((w.alloc (.cells #[.int .i64 kx,.string tx,.slice Acx cx.length ccx,.slice Akyx kyx.length ckyx,.slice Aux ux.length cux,.slice Aox ox.length cox,.slice Anx nx.length cnx,.slice Ansx nsx.length cnsx] 31)).alloc (.cells #[.int .i64 ky,.string ty,.slice Acy cy.length ccy,.slice Akyy kyy.length ckyy,.slice Auy uy.length cuy,.slice Aoy oy.length coy,.slice Any ny.length cny,.slice Ansy nsy.length cnsy] 31)):=((Bel.refl w).alloc _).alloc _
 have HC:Hid (∀ V,Bel ((w.alloc (.cells #[.int .i64 kx,.string tx,.slice Acx cx.length ccx,.slice Akyx kyx.length ckyx,.slice Aux ux.length cux,.slice Aox ox.length cox,.slice Anx nx.length cnx,.slice Ansx nsx.length cnsx] 31)).alloc (.cells #[.int .i64 ky,.string ty,.slice Acy cy.length ccy,.slice Akyy kyy.length ckyy,.slice Auy uy.length cuy,.slice Aoy oy.length coy,.slice Any ny.length cny,.slice Ansy nsy.length cnsy] 31)) V→(Bel w V∧V.cell? ⟨w.heap.size,5,none⟩=some (.slice Aox ox.length cox)∧V.cell? ⟨w.heap.size,6,none⟩=some (.slice Anx nx.length cnx)∧V.cell? ⟨w.heap.size,7,none⟩=some (.slice Ansx nsx.length cnsx)∧V.cell? ⟨w.heap.size+1,5,none⟩=some (.slice Aoy oy.length coy)∧V.cell? ⟨w.heap.size+1,6,none⟩=some (.slice Any ny.length cny)∧V.cell? ⟨w.heap.size+1,7,none⟩=some (.slice Ansy nsy.length cnsy))) :=
  Lib.hid (fun V hb=>⟨hal.then_ hb,hb.c (by go_simp),hb.c (by go_simp),hb.c (by go_simp),hb.c (by go_simp),hb.c (by go_simp),hb.c (by go_simp)⟩)
 have HAL:=Lib.hid hal
 clear hal
 by_cases h1:kx=ky
 ·have hkb:(kx == ky)=true:=by rw [beq_iff_eq];exact h1
  rw [decide_eq_true h1,Bool.true_and] at hR
  by_cases h2:tx=ty
  ·have htb:(tx.toList == ty.toList)=true:=by rw [h2];simp
   rw [decide_eq_true h2,Bool.true_and] at hR
   have HR:=Lib.hid hR
   clear hR h1 h2
   go_enter Tryz.func18,Tryz.ntmps18
   go_wp2_with fail
   refine (HS.out _ HAL.out).mono ?_
   rintro e1 w1 ⟨rfl,hb1⟩
   cases S3 with
   | false =>
     have hf:R=false:=HR.out
     have HB:=Lib.hid (HC.out _ hb1).1
     clear hb1
     go_wp2
     go_ret
     exact ⟨by first | rfl | (rw [hf];rfl),HB.out⟩
   | true =>
     have HB1:=Lib.hid hb1
     obtain ⟨hB,a5,a6,a7,b5,b6,b7⟩:=HC.out _ hb1
     have HB:=Lib.hid hB
     clear hb1 hB
     go_wp2_with fail
     refine (HO.out _ HB.out).mono ?_
     rintro e2 w2 ⟨rfl,hb2⟩
     cases S4 with
     | false =>
       have hf:R=false:=HR.out
       clear a5 a6 a7 b5 b6 b7
       have HD:=Lib.hid (HB.out.then_ hb2)
       clear hb2
       go_wp2
       go_ret
       exact ⟨by first | rfl | (rw [hf];rfl),HD.out⟩
     | true =>
       have HB2:=Lib.hid (HB1.out.then_ hb2)
       clear a5 a6 a7 b5 b6 b7 hb2
       obtain ⟨hB,a5,a6,a7,b5,b6,b7⟩:=HC.out _ HB2.out
       have HD:=Lib.hid hB
       clear hB
       go_wp2_with fail
       refine (HN.out _ HD.out).mono ?_
       rintro e3 w3 ⟨rfl,hb3⟩
       cases S5 with
       | false =>
         have hf:R=false:=HR.out
         have HE:=Lib.hid (HD.out.then_ hb3)
         clear a5 a6 a7 b5 b6 b7 hb3
         go_wp2
         go_ret
         exact ⟨by first | rfl | (rw [hf];rfl),HE.out⟩
       | true =>
         have HB3:=Lib.hid (HB2.out.then_ hb3)
         clear a5 a6 a7 b5 b6 b7 hb3
         obtain ⟨hB,a5,a6,a7,b5,b6,b7⟩:=HC.out _ HB3.out
         have HE:=Lib.hid hB
         clear hB
         go_wp2_with fail
         refine (HP.out _ HE.out).mono ?_
         rintro e4 w4 ⟨rfl,hb4⟩
         have hf:R=S6:=HR.out
         have HF:=Lib.hid (HE.out.then_ hb4)
         clear a5 a6 a7 b5 b6 b7 hb4
         go_wp2
         go_ret
         exact ⟨by first | rfl | (rw [hf];rfl),HF.out⟩
  ·have htb:(tx.toList == ty.toList)=false:=by rw [beq_eq_false_iff_ne];intro e;exact h2 (bytes_eq_iff.1 e)
   have hf:R=false:=by rw [hR,decide_eq_false h2];rfl
   clear hR h1 h2
   go_enter Tryz.func18,Tryz.ntmps18
   go_wp2
   go_ret
   exact ⟨by first | rfl | (rw [hf];rfl),HAL.out⟩
 ·have hkb:(kx == ky)=false:=by rw [beq_eq_false_iff_ne];exact h1
  have hf:R=false:=by rw [hR,decide_eq_false h1];rfl
  clear hR h1
  go_enter Tryz.func18,Tryz.ntmps18
  go_wp2
  go_ret
  exact ⟨by first | rfl | (rw [hf];rfl),HAL.out⟩
set_option maxRecDepth 100000 in
set_option maxHeartbeats 4000000 in
theorem ebare_any (e:Ev) (vc vk vu vo vn vs:Value) (w:World) (h:EvAt w vc vk vu vo vn vs e) :
  Calls Tryz.prog 33 #[evV e.k e.t vc vk vu vo vn vs] w fun en w'=>∃ vc' vk' vu' vo' vn' vs',en = .returned (evV (bareE e).k (bareE e).t vc' vk' vu' vo' vn' vs')∧EvAt w vc' vk' vu' vo' vn' vs' (bareE e)∧Bel w w':=by
 have H:=Lib.hid h
 obtain ⟨Ac,cc,Ak,ck,Au,cu,Ao,co,An,cn,As,cs,rfl,rfl,rfl,rfl,rfl,rfl⟩:=h.opened
 obtain ⟨k,t,c,ky,u,o,n,ns⟩:=e
 unfold evV
 dsimp only at *
 have hcn:ColsAt w (.slice none 0 0) []:=(cols_none 0 w).at_
 have hin:IntsAt w (.slice none 0 0) []:=(ints_none 0 w).at_
 have hln:ListsAt w (.slice none 0 0) []:=(lists_none 0 w).at_
 have hvn:ValsAt w (.slice none 0 0) []:=(vals_none 0 w).at_
 have hpn:PairsAt w (.slice none 0 0) []:=(pairs_none 0 w).at_
 have HZ:=Lib.hid (And.intro hcn (And.intro hin (And.intro hln (And.intro hvn hpn))))
 clear hcn hin hln hvn hpn h
 by_cases h1:k=1
 ·subst h1
  go_enter Tryz.func33,Tryz.ntmps33
  go_wp2
  refine bodyPost_ret (v:=.agg #[.int .i64 1,.string t,.slice none 0 0,.slice none 0 0,.slice none 0 0,.slice none 0 0,.slice An n.length cn,.slice none 0 0]) (by simp [results,Tryz.results33,go_sem]) rfl ⟨_,_,_,_,_,_,rfl,⟨HZ.out.1,HZ.out.2.1,HZ.out.2.2.1,HZ.out.2.2.2.1,H.out.n,HZ.out.2.2.2.2⟩,by (repeat (first | exact Below.refl _ _ | assumption | exact Bel.refl _ | refine Bel.alloc ?_ _ | refine Bel.drew ?_ | refine Bel.drewN ?_ _ | refine Bel.then_ ?_ (by assumption) | refine Bel.setCell ?_ (by first | (simp;done) | (simp;omega)) _))⟩
 have hb1:(k == 1)=false:=by rw [beq_eq_false_iff_ne];exact h1
 by_cases h2:k=2
 ·subst h2
  go_enter Tryz.func33,Tryz.ntmps33
  go_wp2
  refine bodyPost_ret (v:=.agg #[.int .i64 2,.string t,.slice none 0 0,.slice none 0 0,.slice none 0 0,.slice Ao o.length co,.slice An n.length cn,.slice none 0 0]) (by simp [results,Tryz.results33,go_sem]) rfl ⟨_,_,_,_,_,_,rfl,⟨HZ.out.1,HZ.out.2.1,HZ.out.2.2.1,H.out.o,H.out.n,HZ.out.2.2.2.2⟩,by (repeat (first | exact Below.refl _ _ | assumption | exact Bel.refl _ | refine Bel.alloc ?_ _ | refine Bel.drew ?_ | refine Bel.drewN ?_ _ | refine Bel.then_ ?_ (by assumption) | refine Bel.setCell ?_ (by first | (simp;done) | (simp;omega)) _))⟩
 have hb2:(k == 2)=false:=by rw [beq_eq_false_iff_ne];exact h2
 by_cases h3:k=3
 ·subst h3
  go_enter Tryz.func33,Tryz.ntmps33
  go_wp2
  refine bodyPost_ret (v:=.agg #[.int .i64 3,.string t,.slice none 0 0,.slice none 0 0,.slice none 0 0,.slice Ao o.length co,.slice none 0 0,.slice none 0 0]) (by simp [results,Tryz.results33,go_sem]) rfl ⟨_,_,_,_,_,_,rfl,⟨HZ.out.1,HZ.out.2.1,HZ.out.2.2.1,H.out.o,HZ.out.2.2.2.1,HZ.out.2.2.2.2⟩,by (repeat (first | exact Below.refl _ _ | assumption | exact Bel.refl _ | refine Bel.alloc ?_ _ | refine Bel.drew ?_ | refine Bel.drewN ?_ _ | refine Bel.then_ ?_ (by assumption) | refine Bel.setCell ?_ (by first | (simp;done) | (simp;omega)) _))⟩
 have hb3:(k == 3)=false:=by rw [beq_eq_false_iff_ne];exact h3
 by_cases h4:k=4
 ·subst h4
  go_enter Tryz.func33,Tryz.ntmps33
  go_wp2
  refine bodyPost_ret (v:=.agg #[.int .i64 4,.string t,.slice Ac c.length cc,.slice Ak ky.length ck,.slice Au u.length cu,.slice none 0 0,.slice none 0 0,.slice none 0 0]) (by simp [results,Tryz.results33,go_sem]) rfl ⟨_,_,_,_,_,_,rfl,⟨H.out.c,H.out.ky,H.out.u,HZ.out.2.2.2.1,HZ.out.2.2.2.1,HZ.out.2.2.2.2⟩,by (repeat (first | exact Below.refl _ _ | assumption | exact Bel.refl _ | refine Bel.alloc ?_ _ | refine Bel.drew ?_ | refine Bel.drewN ?_ _ | refine Bel.then_ ?_ (by assumption) | refine Bel.setCell ?_ (by first | (simp;done) | (simp;omega)) _))⟩
 have hb4:(k == 4)=false:=by rw [beq_eq_false_iff_ne];exact h4
 by_cases h5:k=5
 ·subst h5
  go_enter Tryz.func33,Tryz.ntmps33
  go_wp2
  refine bodyPost_ret (v:=.agg #[.int .i64 5,.string t,.slice none 0 0,.slice none 0 0,.slice none 0 0,.slice none 0 0,.slice none 0 0,.slice none 0 0]) (by simp [results,Tryz.results33,go_sem]) rfl ⟨_,_,_,_,_,_,rfl,⟨HZ.out.1,HZ.out.2.1,HZ.out.2.2.1,HZ.out.2.2.2.1,HZ.out.2.2.2.1,HZ.out.2.2.2.2⟩,by (repeat (first | exact Below.refl _ _ | assumption | exact Bel.refl _ | refine Bel.alloc ?_ _ | refine Bel.drew ?_ | refine Bel.drewN ?_ _ | refine Bel.then_ ?_ (by assumption) | refine Bel.setCell ?_ (by first | (simp;done) | (simp;omega)) _))⟩
 have hb5:(k == 5)=false:=by rw [beq_eq_false_iff_ne];exact h5
 by_cases h6:k=6
 ·subst h6
  go_enter Tryz.func33,Tryz.ntmps33
  go_wp2
  go_region
  all_goals (go_wp2)
  all_goals (refine bodyPost_ret (v:=.agg #[.int .i64 6,.string ⟨#[]⟩,.slice none 0 0,.slice none 0 0,.slice none 0 0,.slice none 0 0,.slice none 0 0,.slice As ns.length cs]) (by simp [results,Tryz.results33,go_sem]) rfl ⟨_,_,_,_,_,_,rfl,⟨HZ.out.1,HZ.out.2.1,HZ.out.2.2.1,HZ.out.2.2.2.1,HZ.out.2.2.2.1,H.out.ns⟩,by (repeat (first | exact Below.refl _ _ | assumption | exact Bel.refl _ | refine Bel.alloc ?_ _ | refine Bel.drew ?_ | refine Bel.drewN ?_ _ | refine Bel.then_ ?_ (by assumption) | refine Bel.setCell ?_ (by first | (simp;done) | (simp;omega)) _))⟩)
 have hb6:(k == 6)=false:=by rw [beq_eq_false_iff_ne];exact h6
 have hbe:bareE ⟨k,t,c,ky,u,o,n,ns⟩=⟨k,t,[],[],[],[],[],[]⟩:=by unfold bareE;simp [h1,h2,h3,h4,h5,h6]
 rw [hbe]
 clear hbe h1 h2 h3 h4 h5 h6
 go_enter Tryz.func33,Tryz.ntmps33
 go_wp2
 refine bodyPost_ret (v:=.agg #[.int .i64 k,.string t,.slice none 0 0,.slice none 0 0,.slice none 0 0,.slice none 0 0,.slice none 0 0,.slice none 0 0]) (by simp [results,Tryz.results33,go_sem]) rfl ⟨_,_,_,_,_,_,rfl,⟨HZ.out.1,HZ.out.2.1,HZ.out.2.2.1,HZ.out.2.2.2.1,HZ.out.2.2.2.1,HZ.out.2.2.2.2⟩,by (repeat (first | exact Below.refl _ _ | assumption | exact Bel.refl _ | refine Bel.alloc ?_ _ | refine Bel.drew ?_ | refine Bel.drewN ?_ _ | refine Bel.then_ ?_ (by assumption) | refine Bel.setCell ?_ (by first | (simp;done) | (simp;omega)) _))⟩
end
end Go.Proofs.YtnajjhgbombboaaGreatDoor
