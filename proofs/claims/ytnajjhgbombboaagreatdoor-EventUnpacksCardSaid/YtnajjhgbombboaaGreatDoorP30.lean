/-
  Texts behind the statement: part 30.
-/
import Derived.Test.YtnajjhgbombboaaGreatDoorP29
import Derived.Test.YtnajjhgbombboaaGreatDoorRows
import Derived.ChangeSame
import Derived.ChangeVars
import Derived.JoinedOf
import Derived.RowKitTokens
import Derived.LaidLaws
import Derived.LaidHandle
import Derived.Stop.Joined
import Derived.SevenTiedAt
import Derived.Laws.MakeOwn
set_option linter.unusedVariables false
set_option linter.unusedSimpArgs false
namespace Go.Proofs.YtnajjhgbombboaaGreatDoor
section
open Go.RowKit Go.Shelf Go.Lib
attribute [local go_sem] Oper.semAt_some
set_option maxRecDepth 100000 in
set_option maxHeartbeats 4000000 in
theorem r8Same_any (x y:Ev) (vc vk vu vo vn vs vc' vk' vu' vo' vn' vs':Value) (w:World) (hx:EvAt w vc vk vu vo vn vs x) (hy:EvAt w vc' vk' vu' vo' vn' vs' y) :
  Calls Tryz.prog 16 #[evV x.k x.t vc vk vu vo vn vs,evV y.k y.t vc' vk' vu' vo' vn' vs'] w fun e w'=>e = .returned (.bool (sameE x y))∧Bel w w':=by
 have HS:=Lib.hid (fun V (hb:Bel w V)=>tSame_any vc vk vu vc' vk' vu' x.c y.c x.ky y.ky x.u y.u V (hx.c.bel hb) (hx.ky.bel hb) (hx.u.bel hb) (hy.c.bel hb) (hy.ky.bel hb) (hy.u.bel hb))
 have HO:=Lib.hid (fun V (hb:Bel w V)=>vrSame_any vo vo' x.o y.o V (hx.o.bel hb) (hy.o.bel hb))
 have HN:=Lib.hid (fun V (hb:Bel w V)=>vrSame_any vn vn' x.n y.n V (hx.n.bel hb) (hy.n.bel hb))
 have HXS:=Lib.hid hx.ns
 have HYS:=Lib.hid hy.ns
 obtain ⟨Acx,ccx,Akyx,ckyx,Aux,cux,Aox,cox,Anx,cnx,Ansx,cnsx,rfl,rfl,rfl,rfl,rfl,rfl⟩:=hx.opened
 obtain ⟨Acy,ccy,Akyy,ckyy,Auy,cuy,Aoy,coy,Any,cny,Ansy,cnsy,rfl,rfl,rfl,rfl,rfl,rfl⟩:=hy.opened
 clear hx hy
 obtain ⟨R,hR⟩ : ∃ R,R=sameE x y:=⟨_,rfl⟩
 rw [← hR]
 obtain ⟨kx,tx,cx,kyx,ux,ox,nx,nsx⟩:=x
 obtain ⟨ky,ty,cy,kyy,uy,oy,ny,nsy⟩:=y
 unfold evV
 unfold sameE at hR
 dsimp only at *
 generalize sameS cx cy kyx kyy ux uy=S3 at HS hR
 generalize decide (ox=oy)=S4 at HO hR
 generalize decide (nx=ny)=S5 at HN hR
 have HXP:Hid ((nsx.length:Int)≤9223372036854775807∧(0<nsx.length → ∃ b off,Ansx=some ⟨b,off,none⟩ ∧ ∀ i (x:ByteArray×ByteArray),nsx[i]? = some x→w.cell? ⟨b,off+i * 2,none⟩=some (.string x.1)∧w.cell? ⟨b,off+i * 2+1,none⟩=some (.string x.2))):=by
  obtain ⟨A',c',e',h1,h2,h'⟩:=HXS.out
  cases e'
  exact Lib.hid ⟨by unfold maxLen at h2;omega,h'⟩
 have HYP:Hid ((nsy.length:Int)≤9223372036854775807∧(0<nsy.length → ∃ b off,Ansy=some ⟨b,off,none⟩ ∧ ∀ i (x:ByteArray×ByteArray),nsy[i]? = some x→w.cell? ⟨b,off+i * 2,none⟩=some (.string x.1)∧w.cell? ⟨b,off+i * 2+1,none⟩=some (.string x.2))):=by
  obtain ⟨A',c',e',h1,h2,h'⟩:=HYS.out
  cases e'
  exact Lib.hid ⟨by unfold maxLen at h2;omega,h'⟩
 have hal:Bel w ((w.alloc (.cells #[.int .i64 kx,.string tx,.slice Acx cx.length ccx,.slice Akyx kyx.length ckyx,.slice Aux ux.length cux,.slice Aox ox.length cox,.slice Anx nx.length cnx,.slice Ansx nsx.length cnsx] 31)).alloc (.cells #[.int .i64 ky,.string ty,.slice Acy cy.length ccy,.slice Akyy kyy.length ckyy,.slice Auy uy.length cuy,.slice Aoy oy.length coy,.slice Any ny.length cny,.slice Ansy nsy.length cnsy] 31)):=((Bel.refl w).alloc _).alloc _
 have HC:Hid (∀ V,Bel ((w.alloc (.cells #[.int .i64 kx,.string tx,.slice Acx cx.length ccx,.slice Akyx kyx.length ckyx,.slice Aux ux.length cux,.slice Aox ox.length cox,.slice Anx nx.length cnx,.slice Ansx nsx.length cnsx] 31)).alloc (.cells #[.int .i64 ky,.string ty,.slice Acy cy.length ccy,.slice Akyy kyy.length ckyy,.slice Auy uy.length cuy,.slice Aoy oy.length coy,.slice Any ny.length cny,.slice Ansy nsy.length cnsy] 31)) V→(Bel w V∧V.cell? ⟨w.heap.size,5,none⟩=some (.slice Aox ox.length cox)∧V.cell? ⟨w.heap.size,6,none⟩=some (.slice Anx nx.length cnx)∧V.cell? ⟨w.heap.size,7,none⟩=some (.slice Ansx nsx.length cnsx)∧V.cell? ⟨w.heap.size+1,5,none⟩=some (.slice Aoy oy.length coy)∧V.cell? ⟨w.heap.size+1,6,none⟩=some (.slice Any ny.length cny)∧V.cell? ⟨w.heap.size+1,7,none⟩=some (.slice Ansy nsy.length cnsy))) :=
  Lib.hid (fun V hb=>⟨hal.then_ hb,hb.c (by go_simp),hb.c (by go_simp),hb.c (by go_simp),hb.c (by go_simp),hb.c (by go_simp),hb.c (by go_simp)⟩)
 have HAL:=Lib.hid hal
 clear hal HXS HYS
 by_cases h1:kx=ky
 ·have hkb:(kx != ky)=false:=by rw [bne_eq_false_iff_eq];exact h1
  rw [decide_eq_true h1,Bool.true_and] at hR
  by_cases h2:tx=ty
  ·have htb:(tx.toList == ty.toList)=true:=by rw [h2];simp
   have htn:(tx.toList != ty.toList)=false:=by rw [h2];simp
   rw [decide_eq_true h2,Bool.true_and] at hR
   have HR:=Lib.hid hR
   clear hR h1 h2
   go_enter Tryz.func16,Tryz.ntmps16
   go_wp2_with fail
   refine (HS.out _ HAL.out).mono ?_
   rintro e1 w1 ⟨rfl,hb1⟩
   cases S3 with
   | false =>
     have hf:R=false:=HR.out
     have HB:=Lib.hid (HC.out _ hb1).1
     clear hb1
     go_wp2
     go_ret
     exact ⟨by first | rfl | (rw [hf];rfl),HB.out⟩
   | true =>
     have HB1:=Lib.hid hb1
     obtain ⟨hB,a5,a6,a7,b5,b6,b7⟩:=HC.out _ hb1
     have HB:=Lib.hid hB
     clear hb1 hB
     go_wp2_with fail
     refine (HO.out _ HB.out).mono ?_
     rintro e2 w2 ⟨rfl,hb2⟩
     cases S4 with
     | false =>
       have hf:R=false:=HR.out
       clear a5 a6 a7 b5 b6 b7
       have HD:=Lib.hid (HB.out.then_ hb2)
       clear hb2
       go_wp2
       go_ret
       exact ⟨by first | rfl | (rw [hf];rfl),HD.out⟩
     | true =>
       have HB2:=Lib.hid (HB1.out.then_ hb2)
       clear a5 a6 a7 b5 b6 b7 hb2
       obtain ⟨hB,a5,a6,a7,b5,b6,b7⟩:=HC.out _ HB2.out
       have HD:=Lib.hid hB
       clear hB
       go_wp2_with fail
       refine (HN.out _ HD.out).mono ?_
       rintro e3 w3 ⟨rfl,hb3⟩
       cases S5 with
       | false =>
         have hf:R=false:=HR.out
         have HE:=Lib.hid (HD.out.then_ hb3)
         clear a5 a6 a7 b5 b6 b7 hb3
         go_wp2
         go_ret
         exact ⟨by first | rfl | (rw [hf];rfl),HE.out⟩
       | true =>
         have HB3:=Lib.hid (HB2.out.then_ hb3)
         have HRN:Hid (R=decide (nsx=nsy)):=HR.out
         clear a5 a6 a7 b5 b6 b7 hb3
         obtain ⟨hB,a5,a6,a7,b5,b6,b7⟩:=HC.out _ HB3.out
         have HE:=Lib.hid hB
         clear hB HR
         have haI:=HXP.out.1
         have hbI:=HYP.out.1
         by_cases hab:nsx.length=nsy.length
         ·have habI:((nsx.length:Int) != nsy.length)=false:=by rw [bne_eq_false_iff_eq];omega
          have HAB:=Lib.hid hab
          clear hab
          go_wp2
          go_loopw [5] (fun i wr=>∃ k:Nat,k≤nsx.length∧i = .int .i64 k∧Hid (Bel ((w.alloc (.cells #[.int .i64 kx,.string tx,.slice Acx cx.length ccx,.slice Akyx kyx.length ckyx,.slice Aux ux.length cux,.slice Aox ox.length cox,.slice Anx nx.length cnx,.slice Ansx nsx.length cnsx] 31)).alloc (.cells #[.int .i64 ky,.string ty,.slice Acy cy.length ccy,.slice Akyy kyy.length ckyy,.slice Auy uy.length cuy,.slice Aoy oy.length coy,.slice Any ny.length cny,.slice Ansy nsy.length cnsy] 31)) wr)∧Hid (nsx.take k=nsy.take k)) (fun i _=>nsx.length - (intOf i).toNat)
          case atStart=>exact ⟨0,Nat.zero_le _,rfl,HB3,by show _=_;simp⟩
          case round =>
           obtain ⟨k,hk,rfl,HBR,HT⟩:=hrel
           clear a5 a6 a7 b5 b6 b7
           by_cases hlt:k<nsx.length
           ·obtain ⟨x,hx⟩ : ∃ x,nsx[k]? = some x:=⟨_,List.getElem?_eq_getElem hlt⟩
            obtain ⟨y,hy⟩ : ∃ y,nsy[k]? = some y:=⟨_,List.getElem?_eq_getElem (by have:=HAB.out;omega)⟩
            obtain ⟨ba,oa,rfl,hai⟩:=HXP.out.2 (by omega)
            obtain ⟨bb,ob,rfl,hbi⟩:=HYP.out.2 (by have:=HAB.out;omega)
            obtain ⟨hW,a5,a6,a7,b5,b6,b7⟩:=HC.out _ HBR.out
            have hWd:=hW
            have p0:=hWd.c (hai k x hx).1
            have r0:=hWd.c (hbi k y hy).1
            have p1:=hWd.c (hai k x hx).2
            have r1:=hWd.c (hbi k y hy).2
            have hkI:(k:Int)<nsx.length:=by omega
            have hkJ:(k:Int)<nsy.length:=by have:=HAB.out;omega
            have HNX:Hid (x=y→nsx.take (k+1)=nsy.take (k+1)):=fun e=>by rw [List.take_add_one,List.take_add_one,hx,hy,HT.out,e]
            have HNO:Hid (¬ x=y→R=false):=fun e=>by rw [HRN.out];exact decide_eq_false (fun h=>e (by rw [h,hy] at hx;exact (Option.some.inj hx).symm))
            have HLT:=Lib.hid hlt
            have HX:Hid (∀ V,Bel wr V→V.cell? ⟨ba,oa+k * 2,none⟩=some (.string x.1)∧V.cell? ⟨ba,oa+k * 2+1,none⟩=some (.string x.2)∧V.cell? ⟨bb,ob+k * 2,none⟩=some (.string y.1)∧V.cell? ⟨bb,ob+k * 2+1,none⟩=some (.string y.2)∧V.cell? ⟨w.heap.size,7,none⟩=some (.slice (some ⟨ba,oa,none⟩) nsx.length cnsx)∧V.cell? ⟨w.heap.size+1,7,none⟩=some (.slice (some ⟨bb,ob,none⟩) nsy.length cnsy)):=Lib.hid (fun V hV=>⟨hV.c p0,hV.c p1,hV.c r0,hV.c r1,hV.c a7,hV.c b7⟩)
            have HWR:=Lib.hid (hW.then_ (Bel.refl wr).drew)
            clear hx hy hai hbi hlt hW hWd p0 p1 r0 r1 a5 a6 b5 b6
            by_cases hxy:x=y
            ·have ht:=Lib.hid (HNX.out hxy)
             subst hxy
             have hne:=fun W=>pair_ne x x W
             rw [decide_eq_false (by simp)] at hne
             unfold pairV at hne
             go_wp2
             refine wp_region_noPanic ?_
             refine wp_region_held_drew (S:=(fun V:World=>V.cell? ⟨ba,oa+k * 2,none⟩=some (.string x.1)∧V.cell? ⟨ba,oa+k * 2+1,none⟩=some (.string x.2)∧V.cell? ⟨bb,ob+k * 2,none⟩=some (.string x.1)∧V.cell? ⟨bb,ob+k * 2+1,none⟩=some (.string x.2)∧V.cell? ⟨w.heap.size,7,none⟩=some (.slice (some ⟨ba,oa,none⟩) nsx.length cnsx)∧V.cell? ⟨w.heap.size+1,7,none⟩=some (.slice (some ⟨bb,ob,none⟩) nsy.length cnsy))) (by kernel_rfl) ?_ (fun hHr1_0=>?_)
             ·(try dsimp only);exact HX.out _ (Bel.refl wr).drew
             refine tk 0 ?_
             refine tk 1 ?_
             refine tk 2 ?_
             refine tk 3 ?_
             refine tk 4 ?_
             refine tk 5 ?_
             refine tk 6 ?_
             refine tk 7 ?_
             refine tk 8 ?_
             refine tk 9 ?_
             refine tk 10 ?_
             refine wpAnyH_done (by kernel_rfl) ?_ _
             refine NoPanic.normal ?_
             go_wp2
             go_roundw
             case rel=>exact ⟨k+1,HLT.out,by go_num,HBR.out.drew,ht.out⟩
             case measure=>have:=HLT.out;simp [intOf];omega
            ·have hf:=HNO.out hxy
             have hne:=fun W=>pair_ne x y W
             rw [decide_eq_true hxy] at hne
             unfold pairV at hne
             go_wp2
             refine wp_region_noPanic ?_
             refine wp_region_held_drew (S:=(fun V:World=>V.cell? ⟨ba,oa+k * 2,none⟩=some (.string x.1)∧V.cell? ⟨ba,oa+k * 2+1,none⟩=some (.string x.2)∧V.cell? ⟨bb,ob+k * 2,none⟩=some (.string y.1)∧V.cell? ⟨bb,ob+k * 2+1,none⟩=some (.string y.2)∧V.cell? ⟨w.heap.size,7,none⟩=some (.slice (some ⟨ba,oa,none⟩) nsx.length cnsx)∧V.cell? ⟨w.heap.size+1,7,none⟩=some (.slice (some ⟨bb,ob,none⟩) nsy.length cnsy))) (by kernel_rfl) ?_ (fun hHr2_0=>?_)
             ·(try dsimp only);exact HX.out _ (Bel.refl wr).drew
             refine tk 0 ?_
             refine tk 1 ?_
             refine tk 2 ?_
             refine tk 3 ?_
             refine tk 4 ?_
             refine tk 5 ?_
             refine tk 6 ?_
             refine tk 7 ?_
             refine tk 8 ?_
             refine tk 9 ?_
             refine tk 10 ?_
             refine wpAnyH_done (by kernel_rfl) ?_ _
             refine NoPanic.normal ?_
             go_wp2
             go_ret
             exact ⟨by first | rfl | (rw [hf];rfl),HWR.out⟩
           ·obtain rfl:k=nsx.length:=by omega
            have ht:R=true:=by
             rw [HRN.out]
             have:=HT.out
             rw [List.take_length,HAB.out,List.take_length] at this
             exact decide_eq_true this
            obtain ⟨hW,-,-,a7,-,-,b7⟩:=HC.out _ HBR.out
            have HW:=Lib.hid hW
            clear HT hlt hk hW
            go_wp2
            go_ret
            exact ⟨by first | rfl | (rw [ht];rfl),HW.out⟩
         ·have hf:R=false:=by rw [HRN.out];exact decide_eq_false (fun e=>hab (by rw [e]))
          have habI:((nsx.length:Int) != nsy.length)=true:=by rw [bne_iff_ne];omega
          go_wp2
          go_ret
          exact ⟨by first | rfl | (rw [hf];rfl),HE.out⟩
  ·have htb:(tx.toList == ty.toList)=false:=by rw [beq_eq_false_iff_ne];intro e;exact h2 (bytes_eq_iff.1 e)
   have htn:(tx.toList != ty.toList)=true:=by rw [bne_iff_ne];intro e;exact h2 (bytes_eq_iff.1 e)
   have hf:R=false:=by rw [hR,decide_eq_false h2];rfl
   clear hR h1 h2
   go_enter Tryz.func16,Tryz.ntmps16
   go_wp2
   go_ret
   exact ⟨by first | rfl | (rw [hf];rfl),HAL.out⟩
 ·have hkb:(kx != ky)=true:=by rw [bne_iff_ne];exact h1
  have hf:R=false:=by rw [hR,decide_eq_false h1];rfl
  clear hR h1
  go_enter Tryz.func16,Tryz.ntmps16
  go_wp2
  go_ret
  exact ⟨by first | rfl | (rw [hf];rfl),HAL.out⟩
end
section
open Go.ChangeShapes Go.WideShapes Go.RowKit
set_option maxRecDepth 100000
theorem tiedEt:Tryz.prog.globalNamed "errors.errorType" = some 0:=by kernel_rfl
theorem tiedRt:(Tryz.prog.cutTypes.find? (·.1 == "internal/reflectlite.rtype")).map (·.2)=some 279:=by kernel_rfl
theorem tiedRow:((List.range 324).filter fun t=>Tryz.prog.rowNamed t [101,114,114,111,114])=[220]:=by kernel_rfl
theorem tiedSize:Tryz.prog.types.size=324:=by kernel_rfl
abbrev laidList:List (String×DataW Unit):=[("math/bits.deBruijn32tab", Rows.laid_math_bits_deBruijn32tab),("math/bits.deBruijn64tab", Rows.laid_math_bits_deBruijn64tab),("internal/strconv.uint64pow10", Rows.laid_internal_strconv_uint64pow10),("errors.errorType", Rows.laid_errors_errorType)]
abbrev laidData:List (String×DataW Unit):=[("math/bits.deBruijn32tab", Rows.laid_math_bits_deBruijn32tab),("math/bits.deBruijn64tab", Rows.laid_math_bits_deBruijn64tab),("internal/strconv.uint64pow10", Rows.laid_internal_strconv_uint64pow10)]
theorem handle_of_laid {W:World} (h:laidMetH Tryz.prog laidList W):W.cell? ⟨0,0,none⟩=some (.iface 279 (.agg #[.pointer (some ⟨4,220,none⟩)])):=by
 have h':laidMet Tryz.prog laidData W∧handlesMet Tryz.prog [("errors.errorType", Rows.laid_errors_errorType)] W:=h
 obtain ⟨name,u,ty,e1,e2,e3,e4,e5⟩:=h'.2 _ (List.mem_singleton.2 rfl)
 have en:name=[101,114,114,111,114]:=(Option.some.inj e1).symm
 subst en
 obtain rfl:=Option.some.inj (tiedRt.symm.trans e2)
 have hm:ty ∈ (List.range 324).filter fun t=>Tryz.prog.rowNamed t [101,114,114,111,114]:=List.mem_filter.2 ⟨List.mem_range.2 (by rw [← tiedSize];exact e3),e4⟩
 rw [tiedRow] at hm
 obtain rfl:=List.mem_singleton.1 hm
 have hh:typeHandle Tryz.prog 220 = .pointer (some ⟨4,220,none⟩):=by kernel_rfl
 rw [hh] at e5
 simpa using World.var?_cell tiedEt e5 0
def cells32:Array Value:=#[.int .u8 0,.int .u8 1,.int .u8 28,.int .u8 2,.int .u8 29,.int .u8 14,.int .u8 24,.int .u8 3,.int .u8 30,.int .u8 22,.int .u8 20,.int .u8 15,.int .u8 25,.int .u8 17,.int .u8 4,.int .u8 8,.int .u8 31,.int .u8 27,.int .u8 13,.int .u8 23,.int .u8 21,.int .u8 19,.int .u8 16,.int .u8 7,.int .u8 26,.int .u8 12,.int .u8 18,.int .u8 6,.int .u8 11,.int .u8 5,.int .u8 10,.int .u8 9]
def cells64:Array Value:=#[.int .u8 0,.int .u8 1,.int .u8 56,.int .u8 2,.int .u8 57,.int .u8 49,.int .u8 28,.int .u8 3,.int .u8 61,.int .u8 58,.int .u8 42,.int .u8 50,.int .u8 38,.int .u8 29,.int .u8 17,.int .u8 4,.int .u8 62,.int .u8 47,.int .u8 59,.int .u8 36,.int .u8 45,.int .u8 43,.int .u8 51,.int .u8 22,.int .u8 53,.int .u8 39,.int .u8 33,.int .u8 30,.int .u8 24,.int .u8 18,.int .u8 12,.int .u8 5,.int .u8 63,.int .u8 55,.int .u8 48,.int .u8 27,.int .u8 60,.int .u8 41,.int .u8 37,.int .u8 16,.int .u8 46,.int .u8 35,.int .u8 44,.int .u8 21,.int .u8 52,.int .u8 32,.int .u8 23,.int .u8 11,.int .u8 54,.int .u8 26,.int .u8 40,.int .u8 15,.int .u8 34,.int .u8 20,.int .u8 31,.int .u8 10,.int .u8 25,.int .u8 14,.int .u8 19,.int .u8 9,.int .u8 13,.int .u8 8,.int .u8 7,.int .u8 6]
def cells10:Array Value:=#[.int .u64 1,.int .u64 10,.int .u64 100,.int .u64 1000,.int .u64 10000,.int .u64 100000,.int .u64 1000000,.int .u64 10000000,.int .u64 100000000,.int .u64 1000000000,.int .u64 10000000000,.int .u64 100000000000,.int .u64 1000000000000,.int .u64 10000000000000,.int .u64 100000000000000,.int .u64 1000000000000000,.int .u64 10000000000000000,.int .u64 100000000000000000,.int .u64 1000000000000000000,.int .u64 10000000000000000000]
noncomputable def laidWorld (os:Os):World :=
 let w0:=World.holding Tryz.prog os ⟨#[],#[],[]⟩
 { w0 with heap:=(((w0.heap.modify 0 fun
    | .cells _ t frozen=>.cells #[.iface 279 (.agg #[.pointer (some ⟨4,220,none⟩)])] t frozen
    | o=>o).modify 1 fun
    | .cells _ t frozen=>.cells cells10 t frozen
    | o=>o).modify 2 fun
    | .cells _ t frozen=>.cells cells32 t frozen
    | o=>o).modify 3 fun
    | .cells _ t frozen=>.cells cells64 t frozen
    | o=>o }
theorem laidWorld_met (os:Os) (args:Array Value):laidMetH Tryz.prog laidList ((laidWorld os).forCall (fun _ _=>0) ⟨#[],args,[]⟩).memory :=
 laidMetH_of_parts (laidMet_of_run' 100 (by kernel_rfl) (by kernel_rfl)) (by kernel_rfl)
theorem param_in {P:Program} {ps:Array TypeId} (h:(ps.all fun t=>!P.wantsStandIn t)=true) {j:Nat} {t:TypeId} (ht:ps[j]? = some t):P.wantsStandIn t=false:=by
 obtain ⟨hj,e⟩:=Array.getElem?_eq_some_iff.1 ht
 have:=(Array.all_eq_true.1 h) j hj
 rw [e] at this
 simpa using this
end
section
open Go.RowKit Go.Shelf Go.Lib
attribute [local go_sem] Oper.semAt_some
def n8 (s:List UInt8) (bad:Bool):(List UInt8×Bool)×Nat:=if bad=true then (([],true),0) else match pNum 1001 s with
 | none=>(([],true),0)
 | some (n,r)=>((r,false),n)
def t8 (s:List UInt8) (bad:Bool):(List UInt8×Bool)×List UInt8:=if bad=true then (([],true),[]) else match rdText s with
 | none=>(([],true),[])
 | some (x,m)=>((s.drop m,false),x)
def w8 (s:List UInt8) (bad:Bool):(List UInt8×Bool)×List Val:=if (krDec (t8 s bad).2).2=0 then ((t8 s bad).1,(krDec (t8 s bad).2).1) else (([],true),[])
end
section
open Go.RowKit Go.Shelf Go.Lib
abbrev Q8:=List UInt8×Bool
def s8 (q:Q8):Q8×(List Col×List Int×List (List Int)):=match decS (t8 q.1 q.2).2 with
 | some x=>((t8 q.1 q.2).1,x)
 | none=>(((t8 q.1 q.2).1.1,true),([],[],[]))
def ps8:Nat→Q8→List (ByteArray×ByteArray)→Q8×List (ByteArray×ByteArray)
 | 0,q,l=>(q,l)
 | n+1,q,l=>ps8 n (t8 (t8 q.1 q.2).1.1 (t8 q.1 q.2).1.2).1 (l ++ [(⟨(t8 q.1 q.2).2.toArray⟩,⟨(t8 (t8 q.1 q.2).1.1 (t8 q.1 q.2).1.2).2.toArray⟩)])
def d8a (s:List UInt8):Q8×Ev:=((n8 s false).1,evOf (n8 s false).2)
def d8t (p:Q8×Ev):Q8×Ev:=if p.2.k=6 then p else ((t8 p.1.1 p.1.2).1,{ p.2 with t:=⟨(t8 p.1.1 p.1.2).2.toArray⟩ })
def d8o (p:Q8×Ev):Q8×Ev:=if p.2.k=2 ∨ p.2.k=3 then ((w8 p.1.1 p.1.2).1,{ p.2 with o:=(w8 p.1.1 p.1.2).2 }) else p
def d8n (p:Q8×Ev):Q8×Ev:=if p.2.k=1 ∨ p.2.k=2 then ((w8 p.1.1 p.1.2).1,{ p.2 with n:=(w8 p.1.1 p.1.2).2 }) else p
def d8s (p:Q8×Ev):Q8×Ev:=if p.2.k=4 then ((s8 p.1).1,{ p.2 with c:=(s8 p.1).2.1,ky:=(s8 p.1).2.2.1,u:=(s8 p.1).2.2.2 }) else p
def d8q (p:Q8×Ev):Q8×Nat:=if p.2.k=6 then n8 p.1.1 p.1.2 else (p.1,0)
def d8p (p:Q8×Ev):Q8×Ev:=((ps8 (min (d8q p).2 5) (d8q p).1 []).1,{ p.2 with ns:=(ps8 (min (d8q p).2 5) (d8q p).1 []).2 })
def d8 (s:List UInt8):Q8×Ev:=d8p (d8s (d8n (d8o (d8t (d8a s)))))
end
section
open Go.RowKit Go.Shelf Go.Lib
attribute [local go_sem] Oper.semAt_some
structure DX (w:World) (b4:Nat) (V:World) (cs:Array Value) (vB:Value) (bad:Bool):Prop where
 bel:Bel w V
 res:Blk V w.heap.size 31 #[.int .i64 0,.string ⟨#[]⟩,.slice none 0 0,.slice none 0 0,.slice none 0 0,.slice none 0 0,.slice none 0 0,.slice none 0 0]
 rd:Blk V b4 97 #[vB,.bool bad]
 ev:Blk V (b4+1) 31 cs
 lt:w.heap.size<b4
theorem DX.below {w V V':World} {b4:Nat} {cs:Array Value} {vB:Value} {bad:Bool} (h:DX w b4 V cs vB bad) (hb:Bel V V'):DX w b4 V' cs vB bad :=
 ⟨h.bel.then_ hb,h.res.below hb h.res.lt,h.rd.below hb h.rd.lt,h.ev.below hb h.ev.lt,h.lt⟩
theorem DX.setB {w V:World} {b4:Nat} {cs:Array Value} {vB:Value} {bad:Bool} (h:DX w b4 V cs vB bad) (b:Bool):DX w b4 (V.setCell ⟨b4,1,none⟩ (.bool b)) cs vB b :=
 ⟨h.bel.setCell (by have:=h.lt;show _≤b4;omega) _,h.res.far (by have:=h.lt;show _ ≠ b4;omega) _,h.rd.set_ 1 (.bool b),h.ev.far (by show _ ≠ b4;omega) _,h.lt⟩
theorem DX.grown {w V V':World} {b4:Nat} {cs:Array Value} {vB:Value} {bad:Bool} (h:DX w b4 V cs vB bad) {row:Option Nat} (hg:V.grownBy V' row) (hr : ∀ j,row=some j→b4+1<j):DX w b4 V' cs vB bad :=
 ⟨Below.grown h.bel hg h.bel.size (fun j e=>by have:=hr j e;have:=h.lt;omega),h.res.grown hg (fun e=>by have:=hr _ e.symm;have:=h.lt;omega),h.rd.grown hg (fun e=>by have:=hr _ e.symm;omega),h.ev.grown hg (fun e=>by have:=hr _ e.symm;omega),h.lt⟩
theorem DX.far {w V:World} {b4:Nat} {cs:Array Value} {vB:Value} {bad:Bool} (h:DX w b4 V cs vB bad) {p:Addr} (hp:b4+1<p.block) (u:Value):DX w b4 (V.setCell p u) cs vB bad :=
 ⟨h.bel.setCell (by have:=h.lt;omega) _,h.res.far (by have:=h.lt;omega) _,h.rd.far (by omega) _,h.ev.far (by omega) _,h.lt⟩
theorem Above.bel {n:Nat} {w V V':World} (h:Above n w V) (hb:Bel V V') (hs:w.heap.size≤V.heap.size):Above n w V':=fun j hj hl=>(hb.block j (Nat.lt_of_lt_of_le hl hs)).trans (h j hj hl)
theorem Above.set {n:Nat} {w V:World} (h:Above n w V) {p:Addr} (hp:p.block<n ∨ w.heap.size≤p.block) (u:Value):Above n w (V.setCell p u):=fun j hj hl=>(Below.heap_setCell _ _ _ _ (by omega)).trans (h j hj hl)
theorem Above.refl (n:Nat) (w:World):Above n w w:=fun _ _ _=>rfl
end
section
open Go.RowKit Go.Shelf Go.Lib
attribute [local go_sem] Oper.semAt_some
structure UD (w:World) (b4:Nat) (V:World) (vB:Value) (bad:Bool):Prop where
 bel:Bel w V
 rd:Blk V b4 97 #[vB,.bool bad]
 le:w.heap.size≤b4
theorem UD.below {w V V':World} {b4:Nat} {vB:Value} {bad:Bool} (h:UD w b4 V vB bad) (hb:Bel V V'):UD w b4 V' vB bad:=⟨h.bel.then_ hb,h.rd.below hb h.rd.lt,h.le⟩
theorem UD.grown {w V V':World} {b4:Nat} {vB:Value} {bad:Bool} (h:UD w b4 V vB bad) {row:Option Nat} (hg:V.grownBy V' row) (hr : ∀ j,row=some j→b4<j):UD w b4 V' vB bad :=
 ⟨Below.grown h.bel hg h.bel.size (fun j e=>by have:=hr j e;have:=h.le;omega),h.rd.grown hg (fun e=>by have:=hr _ e.symm;omega),h.le⟩
end
section
open Go.RowKit Go.Shelf Go.Lib
attribute [local go_sem] Oper.semAt_some
def setRow (cs:Array Value):Nat→List Value→Array Value
 | _,[]=>cs
 | off,v :: vs=>setRow (cs.setIfInBounds off v) (off+1) vs
theorem setRow_size : ∀ (vs:List Value) (cs:Array Value) (off:Nat),(setRow cs off vs).size=cs.size
 | [],_,_=>rfl
 | v :: vs,cs,off=>by unfold setRow;rw [setRow_size vs];simp
theorem setRow_get : ∀ (vs:List Value) (cs:Array Value) (off p:Nat),off+vs.length≤cs.size→(setRow cs off vs)[p]? = if off≤p∧p<off+vs.length then vs[p - off]? else cs[p]?
 | [],cs,off,p,_=>by unfold setRow;rw [if_neg (by simp)]
 | v :: vs,cs,off,p,h=>by
   unfold setRow
   rw [List.length_cons] at h
   rw [setRow_get vs _ _ _ (by simp;omega),Array.getElem?_setIfInBounds]
   by_cases h1:off+1≤p∧p<off+1+vs.length
   ·rw [if_pos h1,if_pos (by rw [List.length_cons];omega),show p - off=(p - (off+1))+1 by omega,List.getElem?_cons_succ]
   ·rw [if_neg h1]
    by_cases h2:off=p
    ·subst h2
     rw [if_pos rfl,if_pos (by omega),if_pos (by rw [List.length_cons];omega)]
     simp
    ·rw [if_neg h2,if_neg (by rw [List.length_cons];omega)]
def setRowW (w:World) (g:Nat):Nat→List Value→World
 | _,[]=>w
 | off,v :: vs=>setRowW (w.setCell ⟨g,off,none⟩ v) g (off+1) vs
theorem setRowW_blk : ∀ (vs:List Value) (w:World) (g off:Nat) (t:TypeId) (cs:Array Value),Blk w g t cs→Blk (setRowW w g off vs) g t (setRow cs off vs)
 | [],_,_,_,_,_,h=>h
 | v :: vs,w,g,off,t,cs,h=>setRowW_blk vs _ g (off+1) t _ (h.set_ off v)
theorem setRowW_bel : ∀ (vs:List Value) (w V:World) (g off:Nat),w.heap.size≤g→Bel w V→Bel w (setRowW V g off vs)
 | [],_,_,_,_,_,h=>h
 | v :: vs,w,V,g,off,hg,h=>setRowW_bel vs w _ g (off+1) hg (h.setCell (p:=⟨g,off,none⟩) hg v)
def l5:List Value:=[.int .i64 5,.string ⟨#[116]⟩,.slice none 0 0,.slice none 0 0,.slice none 0 0,.slice none 0 0,.slice none 0 0,.slice none 0 0]
structure MadeAt (w3 wr:World) (k i:Nat):Prop where
 bel:Bel w3 wr
 blk : ∃ cs,Blk wr w3.heap.size 31 cs∧cs.size=k * 8 ∧ ∀ j,j<i → ∀ c,c<8→cs[j * 8+c]? = l5[c]?
theorem MadeAt.step {w3 wr:World} {k i:Nat} (h:MadeAt w3 wr k i) (hi:i<k):MadeAt w3 (setRowW wr w3.heap.size (i * 8) l5) k (i+1):=by
 obtain ⟨hb,cs,h1,h2,h3⟩:=h
 refine ⟨setRowW_bel _ _ _ _ _ (Nat.le_refl _) hb,_,setRowW_blk _ _ _ _ _ _ h1,by rw [setRow_size,h2],fun j hj c hc=>?_⟩
 have h8:l5.length=8:=rfl
 rw [setRow_get _ _ _ _ (by rw [h8,h2];omega),h8]
 by_cases hji:j=i
 ·subst hji
  rw [if_pos (by omega),show j * 8+c - j * 8=c by omega]
 ·rw [if_neg (by omega)]
  exact h3 j (by omega) c hc
end
section
open Go.RowKit Go.Shelf Go.Lib
attribute [local go_sem] Oper.semAt_some
structure After (W:World) where
 w:World
 bel:Bel W w
instance (W:World):Nonempty (After W):=⟨⟨W,Bel.refl W⟩⟩
end
end Go.Proofs.YtnajjhgbombboaaGreatDoor
