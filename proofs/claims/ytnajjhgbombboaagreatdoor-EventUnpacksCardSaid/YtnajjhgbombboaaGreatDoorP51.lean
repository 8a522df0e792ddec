/-
  Texts behind the statement: part 51.
-/
import Derived.Test.YtnajjhgbombboaaGreatDoorP38
import Derived.Test.YtnajjhgbombboaaGreatDoorP49
import Derived.Test.YtnajjhgbombboaaGreatDoorP50
set_option linter.unusedVariables false
set_option linter.unusedSimpArgs false
namespace Go.Proofs.YtnajjhgbombboaaGreatDoor
section
open Go.RowKit Go.Shelf Go.Lib
attribute [local go_sem] Oper.semAt_some
theorem DX.setR {w V:World} {b4:Nat} {cs:Array Value} {vB:Value} {bad:Bool} (h:DX w b4 V cs vB bad) (v:Value) (b:Bool):DX w b4 ((V.setCell ⟨b4,0,none⟩ v).setCell ⟨b4,1,none⟩ (.bool b)) cs v b :=
 ⟨(h.bel.setCell (by have:=h.lt;show _≤b4;omega) _).setCell (by have:=h.lt;show _≤b4;omega) _,(h.res.far (by have:=h.lt;show _ ≠ b4;omega) _).far (by have:=h.lt;show _ ≠ b4;omega) _,(h.rd.set_ 0 v).set_ 1 (.bool b),(h.ev.far (by show _ ≠ b4;omega) _).far (by show _ ≠ b4;omega) _,h.lt⟩
theorem DX.setE {w V:World} {b4:Nat} {cs:Array Value} {vB:Value} {bad:Bool} (h:DX w b4 V cs vB bad) (i:Nat) (u:Value):DX w b4 (V.setCell ⟨b4+1,i,none⟩ u) (cs.setIfInBounds i u) vB bad :=
 ⟨h.bel.setCell (by have:=h.lt;show _≤b4+1;omega) _,h.res.far (by have:=h.lt;show _ ≠ b4+1;omega) _,h.rd.far (by show _ ≠ b4+1;omega) _,h.ev.set_ i u,h.lt⟩
def St (w:World) (b4 n:Nat) (p:Q8×Ev) (V:World):Prop:=∃ vB vc vk vu vo vn,DX w b4 V (evCells p.2.k p.2.t vc vk vu vo vn (.slice none 0 0)) vB p.1.2∧BsAt w vB p.1.1∧EvIn (b4+2) V vc vk vu vo vn (.slice none 0 0) p.2∧p.1.1.length≤n
def GivesD8 (s:List UInt8) (w:World) (e:Ending) (w':World):Prop:=∃ vc vk vu vo vn vs,e = .returned (.tuple #[evV (dec8 s).1.k (dec8 s).1.t vc vk vu vo vn vs,.int .i64 (dec8 s).2])∧EvIn w.heap.size w' vc vk vu vo vn vs (dec8 s).1∧Bel w w'
theorem DX.facts {w V:World} {b4:Nat} {cs:Array Value} {vB:Value} {bad:Bool} (h:DX w b4 V cs vB bad):V.cell? ⟨b4,0,none⟩=some vB∧V.cell? ⟨b4,1,none⟩=some (.bool bad)∧V.frozen? ⟨b4,0,none⟩=false∧V.frozen? ⟨b4,1,none⟩=false∧b4<V.heap.size∧b4+1<V.heap.size :=
 ⟨(h.rd.cell 0).trans rfl,(h.rd.cell 1).trans rfl,h.rd.frozen 0,h.rd.frozen 1,h.rd.lt,h.ev.lt⟩
theorem ValsIn.keep8 {n:Nat} {w w':World} {v:Value} {l:List Val} (h:ValsIn n w v l) (ha:Above n w w'):ValsIn n w' v l:=by obtain ⟨b,h1,h2⟩:=h;exact ⟨b,h1,own_above ha h2 h1⟩
theorem wp_name8 {P:Program} {c:Code} {Q:Exit→Act→World→Prop} {a:Act} {w:World} (h : ∀ V,V=w→c.wp P Q a V):c.wp P Q a w:=h w rfl
theorem cols_keep8 {n:Nat} {w w':World} {v:Value} {l:List Col} (h:ColsIn n w v l) (ha:Above n w w'):ColsIn n w' v l:=by obtain ⟨b,h1,h2⟩:=h;exact ⟨b,h1,own_above ha h2 h1⟩
theorem ints_keep8 {n:Nat} {w w':World} {v:Value} {l:List Int} (h:IntsIn n w v l) (ha:Above n w w'):IntsIn n w' v l:=by obtain ⟨b,h1,h2⟩:=h;exact ⟨b,h1,own_above ha h2 h1⟩
theorem lists_keep8 {n:Nat} {w w':World} {v:Value} {l:List (List Int)} (h:ListsIn n w v l) (ha:Above n w w'):ListsIn n w' v l:=by
 obtain ⟨b,m,us,h1,h2,h3,h4⟩:=h
 exact ⟨b,m,us,h1,h2,own_above ha h3 h1,h4.1,fun j u l hu hl=>by obtain ⟨b',h5,h6⟩:=h4.2 j u l hu hl;exact ⟨b',h5,own_above ha h6 (Nat.le_trans h2 h5)⟩⟩
theorem set_size (V:World) (p:Addr) (u:Value):(V.setCell p u).heap.size=V.heap.size:=by simp
def setR (V:World) (b4:Nat) (v:Value) (b:Bool):World:=(V.setCell ⟨b4,0,none⟩ v).setCell ⟨b4,1,none⟩ (.bool b)
theorem above_R {n b4:Nat} {w V:World} (h:Above n w V) (hn:b4<n) (v:Value) (b:Bool):Above n w ((V.setCell ⟨b4,0,none⟩ v).setCell ⟨b4,1,none⟩ (.bool b)):=(h.set (p:=⟨b4,0,none⟩) (.inl hn) v).set (p:=⟨b4,1,none⟩) (.inl hn) (.bool b)
theorem set8_cells {V:World} {b:Nat} {T:TypeId} {a0 a1 a2 a3 a4 a5 a6 a7:Value} (h:Blk V b T #[a0,a1,a2,a3,a4,a5,a6,a7]) (v0 v1 v2 v3 v4 v5 v6 v7:Value) :
  ((((((((V.setCell ⟨b,0,none⟩ v0).setCell ⟨b,1,none⟩ v1).setCell ⟨b,2,none⟩ v2).setCell ⟨b,3,none⟩ v3).setCell ⟨b,4,none⟩ v4).setCell ⟨b,5,none⟩ v5).setCell ⟨b,6,none⟩ v6).setCell ⟨b,7,none⟩ v7).cell? ⟨b,0,none⟩=some v0∧((((((((V.setCell ⟨b,0,none⟩ v0).setCell ⟨b,1,none⟩ v1).setCell ⟨b,2,none⟩ v2).setCell ⟨b,3,none⟩ v3).setCell ⟨b,4,none⟩ v4).setCell ⟨b,5,none⟩ v5).setCell ⟨b,6,none⟩ v6).setCell ⟨b,7,none⟩ v7).cell? ⟨b,1,none⟩=some v1∧((((((((V.setCell ⟨b,0,none⟩ v0).setCell ⟨b,1,none⟩ v1).setCell ⟨b,2,none⟩ v2).setCell ⟨b,3,none⟩ v3).setCell ⟨b,4,none⟩ v4).setCell ⟨b,5,none⟩ v5).setCell ⟨b,6,none⟩ v6).setCell ⟨b,7,none⟩ v7).cell? ⟨b,2,none⟩=some v2∧((((((((V.setCell ⟨b,0,none⟩ v0).setCell ⟨b,1,none⟩ v1).setCell ⟨b,2,none⟩ v2).setCell ⟨b,3,none⟩ v3).setCell ⟨b,4,none⟩ v4).setCell ⟨b,5,none⟩ v5).setCell ⟨b,6,none⟩ v6).setCell ⟨b,7,none⟩ v7).cell? ⟨b,3,none⟩=some v3∧((((((((V.setCell ⟨b,0,none⟩ v0).setCell ⟨b,1,none⟩ v1).setCell ⟨b,2,none⟩ v2).setCell ⟨b,3,none⟩ v3).setCell ⟨b,4,none⟩ v4).setCell ⟨b,5,none⟩ v5).setCell ⟨b,6,none⟩ v6).setCell ⟨b,7,none⟩ v7).cell? ⟨b,4,none⟩=some v4∧((((((((V.setCell ⟨b,0,none⟩ v0).setCell ⟨b,1,none⟩ v1).setCell ⟨b,2,none⟩ v2).setCell ⟨b,3,none⟩ v3).setCell ⟨b,4,none⟩ v4).setCell ⟨b,5,none⟩ v5).setCell ⟨b,6,none⟩ v6).setCell ⟨b,7,none⟩ v7).cell? ⟨b,5,none⟩=some v5∧((((((((V.setCell ⟨b,0,none⟩ v0).setCell ⟨b,1,none⟩ v1).setCell ⟨b,2,none⟩ v2).setCell ⟨b,3,none⟩ v3).setCell ⟨b,4,none⟩ v4).setCell ⟨b,5,none⟩ v5).setCell ⟨b,6,none⟩ v6).setCell ⟨b,7,none⟩ v7).cell? ⟨b,6,none⟩=some v6∧((((((((V.setCell ⟨b,0,none⟩ v0).setCell ⟨b,1,none⟩ v1).setCell ⟨b,2,none⟩ v2).setCell ⟨b,3,none⟩ v3).setCell ⟨b,4,none⟩ v4).setCell ⟨b,5,none⟩ v5).setCell ⟨b,6,none⟩ v6).setCell ⟨b,7,none⟩ v7).cell? ⟨b,7,none⟩=some v7:=by
 have h0:Blk (V.setCell ⟨b,0,none⟩ v0) b T #[v0,a1,a2,a3,a4,a5,a6,a7]:=h.set_ 0 v0
 have h1:Blk ((V.setCell ⟨b,0,none⟩ v0).setCell ⟨b,1,none⟩ v1) b T #[v0,v1,a2,a3,a4,a5,a6,a7]:=h0.set_ 1 v1
 have h2:Blk (((V.setCell ⟨b,0,none⟩ v0).setCell ⟨b,1,none⟩ v1).setCell ⟨b,2,none⟩ v2) b T #[v0,v1,v2,a3,a4,a5,a6,a7]:=h1.set_ 2 v2
 have h3:Blk ((((V.setCell ⟨b,0,none⟩ v0).setCell ⟨b,1,none⟩ v1).setCell ⟨b,2,none⟩ v2).setCell ⟨b,3,none⟩ v3) b T #[v0,v1,v2,v3,a4,a5,a6,a7]:=h2.set_ 3 v3
 have h4:Blk (((((V.setCell ⟨b,0,none⟩ v0).setCell ⟨b,1,none⟩ v1).setCell ⟨b,2,none⟩ v2).setCell ⟨b,3,none⟩ v3).setCell ⟨b,4,none⟩ v4) b T #[v0,v1,v2,v3,v4,a5,a6,a7]:=h3.set_ 4 v4
 have h5:Blk ((((((V.setCell ⟨b,0,none⟩ v0).setCell ⟨b,1,none⟩ v1).setCell ⟨b,2,none⟩ v2).setCell ⟨b,3,none⟩ v3).setCell ⟨b,4,none⟩ v4).setCell ⟨b,5,none⟩ v5) b T #[v0,v1,v2,v3,v4,v5,a6,a7]:=h4.set_ 5 v5
 have h6:Blk (((((((V.setCell ⟨b,0,none⟩ v0).setCell ⟨b,1,none⟩ v1).setCell ⟨b,2,none⟩ v2).setCell ⟨b,3,none⟩ v3).setCell ⟨b,4,none⟩ v4).setCell ⟨b,5,none⟩ v5).setCell ⟨b,6,none⟩ v6) b T #[v0,v1,v2,v3,v4,v5,v6,a7]:=h5.set_ 6 v6
 have h7:Blk ((((((((V.setCell ⟨b,0,none⟩ v0).setCell ⟨b,1,none⟩ v1).setCell ⟨b,2,none⟩ v2).setCell ⟨b,3,none⟩ v3).setCell ⟨b,4,none⟩ v4).setCell ⟨b,5,none⟩ v5).setCell ⟨b,6,none⟩ v6).setCell ⟨b,7,none⟩ v7) b T #[v0,v1,v2,v3,v4,v5,v6,v7]:=h6.set_ 7 v7
 exact ⟨h7.cell 0,h7.cell 1,h7.cell 2,h7.cell 3,h7.cell 4,h7.cell 5,h7.cell 6,h7.cell 7⟩
theorem set8_bel {w V:World} (h:Bel w V) (v0 v1 v2 v3 v4 v5 v6 v7:Value):Bel w ((((((((V.setCell ⟨w.heap.size,0,none⟩ v0).setCell ⟨w.heap.size,1,none⟩ v1).setCell ⟨w.heap.size,2,none⟩ v2).setCell ⟨w.heap.size,3,none⟩ v3).setCell ⟨w.heap.size,4,none⟩ v4).setCell ⟨w.heap.size,5,none⟩ v5).setCell ⟨w.heap.size,6,none⟩ v6).setCell ⟨w.heap.size,7,none⟩ v7):=((((((((h.setCell (p:=⟨w.heap.size,0,none⟩) (Nat.le_refl _) v0).setCell (p:=⟨w.heap.size,1,none⟩) (Nat.le_refl _) v1).setCell (p:=⟨w.heap.size,2,none⟩) (Nat.le_refl _) v2).setCell (p:=⟨w.heap.size,3,none⟩) (Nat.le_refl _) v3).setCell (p:=⟨w.heap.size,4,none⟩) (Nat.le_refl _) v4).setCell (p:=⟨w.heap.size,5,none⟩) (Nat.le_refl _) v5).setCell (p:=⟨w.heap.size,6,none⟩) (Nat.le_refl _) v6).setCell (p:=⟨w.heap.size,7,none⟩) (Nat.le_refl _) v7)
theorem set8_above {n b:Nat} (V:World) (h:b<n) (v0 v1 v2 v3 v4 v5 v6 v7:Value):Above n V ((((((((V.setCell ⟨b,0,none⟩ v0).setCell ⟨b,1,none⟩ v1).setCell ⟨b,2,none⟩ v2).setCell ⟨b,3,none⟩ v3).setCell ⟨b,4,none⟩ v4).setCell ⟨b,5,none⟩ v5).setCell ⟨b,6,none⟩ v6).setCell ⟨b,7,none⟩ v7):=(((((((((Above.refl n V).set (p:=⟨b,0,none⟩) (.inl h) v0).set (p:=⟨b,1,none⟩) (.inl h) v1).set (p:=⟨b,2,none⟩) (.inl h) v2).set (p:=⟨b,3,none⟩) (.inl h) v3).set (p:=⟨b,4,none⟩) (.inl h) v4).set (p:=⟨b,5,none⟩) (.inl h) v5).set (p:=⟨b,6,none⟩) (.inl h) v6).set (p:=⟨b,7,none⟩) (.inl h) v7)
set_option maxRecDepth 100000 in
set_option maxHeartbeats 16000000 in
theorem r8Decode_any (vb:Value) (s:List UInt8) (hs:s.length≤1000000) (w:World) (hb:BsAt w vb s):Calls Tryz.prog 17 #[vb] w (GivesD8 s w):=by
 have HBS:=Lib.hid hb
 obtain ⟨A,c,rfl,-,-,-⟩:=hb
 have hkk:((d8a s).2).k=((n8 s false).2:Int):=rfl
 obtain ⟨hl0,hk0⟩:=n8_le s false
 have HD0:Hid (d8a s=((n8 s false).1,evOf (n8 s false).2)):=Lib.hid rfl
 have HNUM:=Lib.hid (fun V (hV:Bel w V)=>r8number_any (.slice A s.length c) s false hs w V hV HBS.out)
 have HDEC:Hid (dec8 s=if (d8 s).1.2=false∧rightE (d8 s).2=true∧encE (d8 s).2=s then ((d8 s).2,0) else (evOf 0,180)):=Lib.hid rfl
 have HWF:=Lib.hid (d8_wf s)
 have HSZ:=Lib.hid (d8_sz s)
 have hd8:d8 s=d8p (d8s (d8n (d8o (d8t (d8a s))))):=rfl
 rw [hd8] at HDEC HWF HSZ
 clear hd8
 obtain ⟨⟨⟨r0,b0⟩,k⟩,hN⟩ : ∃ N,n8 s false=N:=⟨_,rfl⟩
 rw [hN] at HNUM HD0 hl0 hk0 hkk
 dsimp only at hl0 hk0 hkk HNUM
 have HD1:Hid (d8a s=((r0,b0),evOf k)):=Lib.hid HD0.out
 have HHS:=Lib.hid hs
 clear hN HD0 hs
 have hwk:(k:Int)≤1000:=by omega
 have HHL:=Lib.hid hl0
 clear hl0
 go_enter Tryz.func17,Tryz.ntmps17
 go_wp2_with fail
 refine (HNUM.out _ ((Bel.refl w).alloc _)).mono ?_
 rintro e1 w1 ⟨vB1,rfl,hbs1,hb1⟩
 have HBS1:=Lib.hid hbs1
 obtain ⟨A1,c1,rfl,-⟩:=hbs1
 have HB1:=Lib.hid hb1
 have hsz1:w.heap.size<w1.heap.size:=by have:=hb1.size;rw [World.size_alloc] at this;omega
 clear hb1
 go_upto_region 3 with fail
 refine wp_name8 ?_
 intro W hW
 have HST:Hid (St w w1.heap.size s.length (d8a s) W):=by
  rw [HD1.out,hW]
  refine Lib.hid ⟨_,_,_,_,_,_,⟨((((Bel.refl w).alloc _).then_ HB1.out).alloc _).alloc _,(((Blk.new w _ _).below HB1.out (Blk.new w _ _).lt).alloc _).alloc _,(Blk.new w1 _ _).alloc _, ?_,hsz1⟩,HBS1.out,⟨cols_none _ _,ints_none _ _,lists_none _ _,vals_none _ _,vals_none _ _,pairs_none _ _⟩,HHL.out⟩
  have h:=Blk.new (w1.alloc (.cells #[.slice A1 r0.length c1,.bool b0] 97)) 31 (evCells k ⟨#[]⟩ (.slice none 0 0) (.slice none 0 0) (.slice none 0 0) (.slice none 0 0) (.slice none 0 0) (.slice none 0 0))
  simp only [World.size_alloc] at h
  exact h
 obtain ⟨b4,hb4⟩ : ∃ b,b=w1.heap.size:=⟨_,rfl⟩
 rw [← hb4] at HST ⊢
 clear hW hsz1 HB1 HBS1 HNUM HD1 HHL hb4
 obtain ⟨P0,hP0⟩ : ∃ P,P=d8a s:=⟨_,rfl⟩
 rw [← hP0] at HST HDEC HWF HSZ hkk
 have hns0:P0.2.ns=[]:=by rw [hP0];rfl
 clear hP0
 go_upto_if 23 with fail
 go_cut [] (fun wx=>St w b4 s.length (d8t P0) wx)
 case first =>
  obtain ⟨⟨⟨r,b⟩,x⟩,hpx⟩ : ∃ q,P0=q:=⟨_,rfl⟩
  have HPX:=Lib.hid hpx
  rw [hpx] at HST hkk hns0
  clear hpx
  dsimp only at hkk hns0
  obtain ⟨vB,vc,vk,vu,vo,vn,hdx,hbs,hin,hln⟩:=HST.out
  have hlr:r.length≤1000000:=Nat.le_trans hln HHS.out
  have HDX:Hid (DX _ _ _ _ _ _):=Lib.hid hdx
  have HIN:Hid (EvIn _ _ _ _ _ _ _ _ _):=Lib.hid hin
  have HBR:Hid (BsAt w vB r):=Lib.hid hbs
  have HLN:Hid (r.length≤s.length):=Lib.hid hln
  obtain ⟨AB,cB,rfl,-⟩:=hbs
  obtain ⟨Ac,cc,Ak,ck,Au,cu,Ao,co,An,cn,As,cs,rfl,rfl,rfl,rfl,rfl,-⟩:=hin.at_.opened
  unfold evCells at HDX hdx
  obtain ⟨p0,p1,f0,f1,l0,l1⟩:=hdx.facts
  clear hin hln
  by_cases h6:k=6
  ·have hb:((k:Int) != 6)=false:=by rw [h6];rfl
   have hxk:x.k=6:=by rw [hkk,h6];rfl
   clear h6
   go_wp2
   go_meet
   case rel =>
    rw [HPX.out,show d8t ((r,b),x)=((r,b),x) from if_pos hxk]
    exact ⟨_,_,_,_,_,_,HDX.out,HBR.out,HIN.out,HLN.out⟩
  ·have hb:((k:Int) != 6)=true:=by rw [bne_iff_ne];omega
   have hxk : ¬ x.k=6:=by rw [hkk];omega
   have HD:Hid (d8t ((r,b),x)=((t8 r b).1,{ x with t:=⟨(t8 r b).2.toArray⟩ })):=Lib.hid (if_neg hxk)
   have HC:=Lib.hid (r8Text_any (.slice AB r.length cB) r b hlr w _ HDX.out.bel HBR.out)
   have htl:=t8_len r b
   generalize t8 r b=T at HD HC htl
   obtain ⟨⟨r2,b2⟩,y⟩:=T
   dsimp only at HD HC htl
   have HTL:Hid (r2.length≤s.length):=Lib.hid (Nat.le_trans htl.1 HLN.out)
   unfold strV at HC
   clear h6 hxk htl
   go_wp2_with fail
   refine HC.out.mono ?_
   rintro e2 w2 ⟨vB2,rfl,hbs2,hb2⟩
   have HX2:=Lib.hid (HDX.out.below hb2)
   have HI2:=Lib.hid (HIN.out.keep (above_bel (n:=b4+2) hb2))
   have HBS2:=Lib.hid hbs2
   obtain ⟨A2,c2,rfl,-⟩:=hbs2
   clear p0 p1 f0 f1 l0 l1 hb2
   obtain ⟨p0,p1,f0,f1,l0,l1⟩:=HX2.out.facts
   have q1:w2.cell? ⟨b4+1,1,none⟩=some (.string x.t):=HX2.out.ev.cell 1
   have g1:w2.frozen? ⟨b4+1,1,none⟩=false:=HX2.out.ev.frozen 1
   go_wp2
   go_meet
   case rel =>
    rw [HPX.out,HD.out]
    have ha:=(above_R (Above.refl (b4+2) w2) (b4:=b4) (by omega) (.slice A2 r2.length c2) b2).set (p:=⟨b4+1,1,none⟩) (.inl (by show b4+1<b4+2;omega)) (.string ⟨y.toArray⟩)
    have hi:=HI2.out.keep ha
    exact ⟨_,_,_,_,_,_,(HX2.out.setR (.slice A2 r2.length c2) b2).setE 1 (.string ⟨y.toArray⟩),HBS2.out,⟨hi.c,hi.ky,hi.u,hi.o,hi.n,hi.ns⟩,HTL.out⟩
 case rest =>
  have HST:=Lib.hid (show St w b4 s.length (d8t P0) wc from hcut)
  clear hcut
  obtain ⟨P1,hP⟩ : ∃ P,P=d8t P0:=⟨_,rfl⟩
  rw [← hP] at HST HDEC HWF HSZ
  have hkk:P1.2.k=k:=by rw [hP,d8t_k];exact hkk
  have hns0:P1.2.ns=[]:=by rw [hP,d8t_ns];exact hns0
  clear hP
  go_upto_region 5 with fail
  obtain ⟨B,hB⟩ : ∃ B,B=decide (k=2 ∨ k=3):=⟨_,rfl⟩
  have HB:=Lib.hid hB
  clear hB
  refine wp_name8 ?_
  intro WW hWW
  rw [← hWW] at HST
  clear hWW
  go_cut [35] (fun v wx=>v = .bool B∧wx=WW)
  case first =>
   by_cases ha:k=2
   ·obtain rfl:B=true:=by rw [HB.out];simp [ha]
    have hb:((k:Int) == 2)=true:=by rw [ha];rfl
    clear ha
    go_wp2
    go_meet
    case rel=>exact ⟨rfl,rfl⟩
   ·have hb:((k:Int) == 2)=false:=by rw [beq_eq_false_iff_ne];omega
    by_cases hc:k=3
    ·obtain rfl:B=true:=by rw [HB.out];simp [hc]
     have hd:((k:Int) == 3)=true:=by rw [hc];rfl
     clear hc ha
     go_wp2
     go_meet
     case rel=>exact ⟨rfl,rfl⟩
    ·obtain rfl:B=false:=by rw [HB.out];simp [ha,hc]
     have hd:((k:Int) == 3)=false:=by rw [beq_eq_false_iff_ne];omega
     clear hc ha
     go_wp2
     go_meet
     case rel=>exact ⟨rfl,rfl⟩
  case rest =>
   obtain ⟨rfl,rfl⟩:=hcut
   go_upto_if 35 with fail
   go_cut [] (fun wx=>St w b4 s.length (d8o P1) wx)
   case first =>
    obtain ⟨⟨⟨r,b⟩,x⟩,hpx⟩ : ∃ q,P1=q:=⟨_,rfl⟩
    have HPX:=Lib.hid hpx
    rw [hpx] at HST hkk hns0
    clear hpx
    dsimp only at hkk hns0
    obtain ⟨vB,vc,vk,vu,vo,vn,hdx,hbs,hin,hln⟩:=HST.out
    have hlr:r.length≤1000000:=Nat.le_trans hln HHS.out
    have HDX:Hid (DX _ _ _ _ _ _):=Lib.hid hdx
    have HIN:Hid (EvIn _ _ _ _ _ _ _ _ _):=Lib.hid hin
    have HBR:Hid (BsAt w vB r):=Lib.hid hbs
    have HLN:Hid (r.length≤s.length):=Lib.hid hln
    obtain ⟨AB,cB,rfl,-⟩:=hbs
    obtain ⟨Ac,cc,Ak,ck,Au,cu,Ao,co,An,cn,As,cs,rfl,rfl,rfl,rfl,rfl,-⟩:=hin.at_.opened
    unfold evCells at HDX hdx
    obtain ⟨p0,p1,f0,f1,l0,l1⟩:=hdx.facts
    clear hin hln
    cases B with
    | false =>
      have hxk : ¬ (x.k=2 ∨ x.k=3):=by have:=of_decide_eq_false HB.out.symm;rw [hkk];omega
      go_wp2
      go_meet
      case rel =>
       rw [HPX.out,show d8o ((r,b),x)=((r,b),x) from if_neg hxk]
       exact ⟨_,_,_,_,_,_,HDX.out,HBR.out,HIN.out,HLN.out⟩
    | true =>
      have hxk:x.k=2 ∨ x.k=3:=by have:=of_decide_eq_true HB.out.symm;rw [hkk];omega
      have HD:Hid (d8o ((r,b),x)=((w8 r b).1,{ x with o:=(w8 r b).2 })):=Lib.hid (if_pos hxk)
      have HC:=Lib.hid (r8Row_any (.slice AB r.length cB) r b hlr w _ HDX.out.bel HBR.out)
      have htl:=w8_len r b
      generalize w8 r b=T at HD HC htl
      obtain ⟨⟨r2,b2⟩,y⟩:=T
      dsimp only at HD HC htl
      have HTL:Hid (r2.length≤s.length):=Lib.hid (Nat.le_trans htl HLN.out)
      clear hxk htl
      go_wp2_with fail
      refine HC.out.mono ?_
      rintro e2 w2 ⟨vB2,vy,rfl,hbs2,hvy,hb2⟩
      have HX2:=Lib.hid (HDX.out.below hb2)
      have HI2:=Lib.hid (HIN.out.keep (above_bel (n:=b4+2) hb2))
      have HVY:=Lib.hid (hvy.less (show b4+2≤_ from l1))
      have HBS2:=Lib.hid hbs2
      obtain ⟨A2,c2,rfl,-⟩:=hbs2
      obtain ⟨Ay,cy,rfl,-⟩:=hvy.at_
      clear p0 p1 f0 f1 l0 l1 hb2 hvy
      obtain ⟨p0,p1,f0,f1,l0,l1⟩:=HX2.out.facts
      have q1:w2.cell? ⟨b4+1,5,none⟩=some (.slice Ao x.o.length co):=HX2.out.ev.cell 5
      have g1:w2.frozen? ⟨b4+1,5,none⟩=false:=HX2.out.ev.frozen 5
      go_wp2
      go_meet
      case rel =>
       rw [HPX.out,HD.out]
       have ha:=(above_R (Above.refl (b4+2) w2) (b4:=b4) (by omega) (.slice A2 r2.length c2) b2).set (p:=⟨b4+1,5,none⟩) (.inl (by show b4+1<b4+2;omega)) (.slice Ay y.length cy)
       have hi:=HI2.out.keep ha
       exact ⟨_,_,_,_,_,_,(HX2.out.setR (.slice A2 r2.length c2) b2).setE 5 (.slice Ay y.length cy),HBS2.out,⟨hi.c,hi.ky,hi.u,HVY.out.keep8 ha,hi.n,hi.ns⟩,HTL.out⟩
   case rest =>
    have HST:=Lib.hid (show St w b4 s.length (d8o P1) wc from hcut)
    clear hcut
    obtain ⟨P2,hP⟩ : ∃ P,P=d8o P1:=⟨_,rfl⟩
    rw [← hP] at HST HDEC HWF HSZ
    have hkk:P2.2.k=k:=by rw [hP,d8o_k];exact hkk
    have hns0:P2.2.ns=[]:=by rw [hP,d8o_ns];exact hns0
    clear hP
    go_upto_region 7 with fail
    obtain ⟨B,hB⟩ : ∃ B,B=decide (k=1 ∨ k=2):=⟨_,rfl⟩
    have HB:=Lib.hid hB
    clear hB
    refine wp_name8 ?_
    intro WW hWW
    rw [← hWW] at HST
    clear hWW
    go_cut [47] (fun v wx=>v = .bool B∧wx=WW)
    case first =>
     by_cases ha:k=1
     ·obtain rfl:B=true:=by rw [HB.out];simp [ha]
      have hb:((k:Int) == 1)=true:=by rw [ha];rfl
      clear ha
      go_wp2
      go_meet
      case rel=>exact ⟨rfl,rfl⟩
     ·have hb:((k:Int) == 1)=false:=by rw [beq_eq_false_iff_ne];omega
      by_cases hc:k=2
      ·obtain rfl:B=true:=by rw [HB.out];simp [hc]
       have hd:((k:Int) == 2)=true:=by rw [hc];rfl
       clear hc ha
       go_wp2
       go_meet
       case rel=>exact ⟨rfl,rfl⟩
      ·obtain rfl:B=false:=by rw [HB.out];simp [ha,hc]
       have hd:((k:Int) == 2)=false:=by rw [beq_eq_false_iff_ne];omega
       clear hc ha
       go_wp2
       go_meet
       case rel=>exact ⟨rfl,rfl⟩
    case rest =>
     obtain ⟨rfl,rfl⟩:=hcut
     go_upto_if 47 with fail
     go_cut [] (fun wx=>St w b4 s.length (d8n P2) wx)
     case first =>
      obtain ⟨⟨⟨r,b⟩,x⟩,hpx⟩ : ∃ q,P2=q:=⟨_,rfl⟩
      have HPX:=Lib.hid hpx
      rw [hpx] at HST hkk hns0
      clear hpx
      dsimp only at hkk hns0
      obtain ⟨vB,vc,vk,vu,vo,vn,hdx,hbs,hin,hln⟩:=HST.out
      have hlr:r.length≤1000000:=Nat.le_trans hln HHS.out
      have HDX:Hid (DX _ _ _ _ _ _):=Lib.hid hdx
      have HIN:Hid (EvIn _ _ _ _ _ _ _ _ _):=Lib.hid hin
      have HBR:Hid (BsAt w vB r):=Lib.hid hbs
      have HLN:Hid (r.length≤s.length):=Lib.hid hln
      obtain ⟨AB,cB,rfl,-⟩:=hbs
      obtain ⟨Ac,cc,Ak,ck,Au,cu,Ao,co,An,cn,As,cs,rfl,rfl,rfl,rfl,rfl,-⟩:=hin.at_.opened
      unfold evCells at HDX hdx
      obtain ⟨p0,p1,f0,f1,l0,l1⟩:=hdx.facts
      clear hin hln
      cases B with
      | false =>
        have hxk : ¬ (x.k=1 ∨ x.k=2):=by have:=of_decide_eq_false HB.out.symm;rw [hkk];omega
        go_wp2
        go_meet
        case rel =>
         rw [HPX.out,show d8n ((r,b),x)=((r,b),x) from if_neg hxk]
         exact ⟨_,_,_,_,_,_,HDX.out,HBR.out,HIN.out,HLN.out⟩
      | true =>
        have hxk:x.k=1 ∨ x.k=2:=by have:=of_decide_eq_true HB.out.symm;rw [hkk];omega
        have HD:Hid (d8n ((r,b),x)=((w8 r b).1,{ x with n:=(w8 r b).2 })):=Lib.hid (if_pos hxk)
        have HC:=Lib.hid (r8Row_any (.slice AB r.length cB) r b hlr w _ HDX.out.bel HBR.out)
        have htl:=w8_len r b
        generalize w8 r b=T at HD HC htl
        obtain ⟨⟨r2,b2⟩,y⟩:=T
        dsimp only at HD HC htl
        have HTL:Hid (r2.length≤s.length):=Lib.hid (Nat.le_trans htl HLN.out)
        clear hxk htl
        go_wp2_with fail
        refine HC.out.mono ?_
        rintro e2 w2 ⟨vB2,vy,rfl,hbs2,hvy,hb2⟩
        have HX2:=Lib.hid (HDX.out.below hb2)
        have HI2:=Lib.hid (HIN.out.keep (above_bel (n:=b4+2) hb2))
        have HVY:=Lib.hid (hvy.less (show b4+2≤_ from l1))
        have HBS2:=Lib.hid hbs2
        obtain ⟨A2,c2,rfl,-⟩:=hbs2
        obtain ⟨Ay,cy,rfl,-⟩:=hvy.at_
        clear p0 p1 f0 f1 l0 l1 hb2 hvy
        obtain ⟨p0,p1,f0,f1,l0,l1⟩:=HX2.out.facts
        have q1:w2.cell? ⟨b4+1,6,none⟩=some (.slice An x.n.length cn):=HX2.out.ev.cell 6
        have g1:w2.frozen? ⟨b4+1,6,none⟩=false:=HX2.out.ev.frozen 6
        go_wp2
        go_meet
        case rel =>
         rw [HPX.out,HD.out]
         have ha:=(above_R (Above.refl (b4+2) w2) (b4:=b4) (by omega) (.slice A2 r2.length c2) b2).set (p:=⟨b4+1,6,none⟩) (.inl (by show b4+1<b4+2;omega)) (.slice Ay y.length cy)
         have hi:=HI2.out.keep ha
         exact ⟨_,_,_,_,_,_,(HX2.out.setR (.slice A2 r2.length c2) b2).setE 6 (.slice Ay y.length cy),HBS2.out,⟨hi.c,hi.ky,hi.u,hi.o,HVY.out.keep8 ha,hi.ns⟩,HTL.out⟩
     case rest =>
      have HST:=Lib.hid (show St w b4 s.length (d8n P2) wc from hcut)
      clear hcut
      obtain ⟨P3,hP⟩ : ∃ P,P=d8n P2:=⟨_,rfl⟩
      rw [← hP] at HST HDEC HWF HSZ
      have hkk:P3.2.k=k:=by rw [hP,d8n_k];exact hkk
      have hns0:P3.2.ns=[]:=by rw [hP,d8n_ns];exact hns0
      clear hP
      go_upto_if 55 with fail
      refine wp_name8 ?_
      intro WW hWW
      rw [← hWW] at HST
      clear hWW
      go_cut [] (fun wx=>St w b4 s.length (d8s P3) wx)
      case first =>
       obtain ⟨⟨⟨r,b⟩,x⟩,hpx⟩ : ∃ q,P3=q:=⟨_,rfl⟩
       have HPX:=Lib.hid hpx
       rw [hpx] at HST hkk hns0
       clear hpx
       dsimp only at hkk hns0
       obtain ⟨vB,vc,vk,vu,vo,vn,hdx,hbs,hin,hln⟩:=HST.out
       have hlr:r.length≤1000000:=Nat.le_trans hln HHS.out
       have HDX:Hid (DX _ _ _ _ _ _):=Lib.hid hdx
       have HIN:Hid (EvIn _ _ _ _ _ _ _ _ _):=Lib.hid hin
       have HBR:Hid (BsAt w vB r):=Lib.hid hbs
       have HLN:Hid (r.length≤s.length):=Lib.hid hln
       obtain ⟨AB,cB,rfl,-⟩:=hbs
       obtain ⟨Ac,cc,Ak,ck,Au,cu,Ao,co,An,cn,As,cs,rfl,rfl,rfl,rfl,rfl,-⟩:=hin.at_.opened
       unfold evCells at HDX hdx
       obtain ⟨p0,p1,f0,f1,l0,l1⟩:=hdx.facts
       clear hin hln
       by_cases h4:k=4
       case neg =>
        have hb:((k:Int) == 4)=false:=by rw [beq_eq_false_iff_ne];omega
        have hxk : ¬ x.k=4:=by rw [hkk];omega
        clear h4
        go_wp2
        go_meet
        case rel =>
         rw [HPX.out,show d8s ((r,b),x)=((r,b),x) from if_neg hxk]
         exact ⟨_,_,_,_,_,_,HDX.out,HBR.out,HIN.out,HLN.out⟩
       have hb:((k:Int) == 4)=true:=by rw [h4];rfl
       have hxk:x.k=4:=by rw [hkk,h4];rfl
       have HD:Hid (d8s ((r,b),x)=((s8 (r,b)).1,{ x with c:=(s8 (r,b)).2.1,ky:=(s8 (r,b)).2.2.1,u:=(s8 (r,b)).2.2.2 })):=Lib.hid (if_pos hxk)
       have h8:s8 (r,b)=match decS (t8 r b).2 with
         | some x=>((t8 r b).1,x)
         | none=>(((t8 r b).1.1,true),([],[],[])):=rfl
       rw [h8] at HD
       have HC:=Lib.hid (r8Text_any (.slice AB r.length cB) r b hlr w _ HDX.out.bel HBR.out)
       have htl:=t8_len r b
       generalize t8 r b=T at HD HC htl
       obtain ⟨⟨r2,b2⟩,y⟩:=T
       dsimp only at HD HC htl
       have HTL:Hid (r2.length≤s.length):=Lib.hid (Nat.le_trans htl.1 HLN.out)
       have hyl:y.length≤1000000:=Nat.le_trans htl.2 hlr
       unfold strV at HC
       have HS:=Lib.hid (fun V=>r4DecodeSchema_any (.slice (some ⟨V.heap.size,0,none⟩) y.length (grownCap V y.length 0 5)) y hyl _ (conv_at y hyl V))
       have hcv:=fun V=>conv_bytes y V
       clear h4 hxk htl hyl h8
       cases hd:decS y with
       | none =>
         rw [hd] at HD HS
         dsimp only at HD
         clear hd
         go_wp2_with fail
         refine HC.out.mono ?_
         rintro e2 w2 ⟨vB2,rfl,hbs2,hb2⟩
         have HX2:=Lib.hid (HDX.out.below hb2)
         have HI2:=Lib.hid (HIN.out.keep (above_bel (n:=b4+2) hb2))
         have HBS2:=Lib.hid hbs2
         obtain ⟨A2,c2,rfl,-⟩:=hbs2
         clear p0 p1 f0 f1 l0 l1 hb2
         obtain ⟨p0,p1,f0,f1,l0,l1⟩:=HX2.out.facts
         go_wp2_with fail
         obtain ⟨W3,hW3⟩ : ∃ W,W=(w2.setCell ⟨b4,0,none⟩ (.slice A2 r2.length c2)).setCell ⟨b4,1,none⟩ (.bool b2):=⟨_,rfl⟩
         rw [← hW3]
         have HX3:Hid (DX w b4 W3 _ (.slice A2 r2.length c2) b2):=Lib.hid (by rw [hW3];exact HX2.out.setR _ _)
         have HI3:=Lib.hid (HI2.out.keep (show Above (b4+2) w2 W3 by rw [hW3];exact above_R (Above.refl (b4+2) w2) (b4:=b4) (by omega) _ _))
         have hby:=bytes_bel y W3
         have hs3:W3.heap.size=w2.heap.size:=by rw [hW3];simp
         have HS3:=HS.out W3
         rw [hs3] at HS3
         clear hW3 hs3 p0 p1 f0 f1 l0 l1 HX2 HI2
         refine HS3.mono ?_
         rintro e3 w3 ⟨rfl,hb3⟩
         have HX4:=Lib.hid ((HX3.out.below hby).below hb3)
         have HI4:=Lib.hid (HI3.out.keep (above_bel (n:=b4+2) (hby.then_ hb3)))
         clear hby hb3
         obtain ⟨p0,p1,f0,f1,l0,l1⟩:=HX4.out.facts
         have q2:w3.cell? ⟨b4+1,2,none⟩=some (.slice Ac x.c.length cc):=HX4.out.ev.cell 2
         have q3:w3.cell? ⟨b4+1,3,none⟩=some (.slice Ak x.ky.length ck):=HX4.out.ev.cell 3
         have q4:w3.cell? ⟨b4+1,4,none⟩=some (.slice Au x.u.length cu):=HX4.out.ev.cell 4
         have g2:w3.frozen? ⟨b4+1,2,none⟩=false:=HX4.out.ev.frozen 2
         have g3:w3.frozen? ⟨b4+1,3,none⟩=false:=HX4.out.ev.frozen 3
         have g4:w3.frozen? ⟨b4+1,4,none⟩=false:=HX4.out.ev.frozen 4
         have ha0 : ∀ (V:World),Above (b4+2) w3 V→Above (b4+2) w3 (V.setCell ⟨b4+1,2,none⟩ (.slice none 0 0)):=fun V h=>h.set (p:=⟨b4+1,2,none⟩) (.inl (by show b4+1<b4+2;omega)) _
         have HAB:Hid (∀ b',Above (b4+2) w3 ((((w3.setCell ⟨b4+1,2,none⟩ (.slice none 0 0)).setCell ⟨b4+1,3,none⟩ (.slice none 0 0)).setCell ⟨b4+1,4,none⟩ (.slice none 0 0)).setCell ⟨b4,1,none⟩ (.bool b'))):=Lib.hid (fun b'=>((((Above.refl (b4+2) w3).set (p:=⟨b4+1,2,none⟩) (.inl (by show b4+1<b4+2;omega)) _).set (p:=⟨b4+1,3,none⟩) (.inl (by show b4+1<b4+2;omega)) _).set (p:=⟨b4+1,4,none⟩) (.inl (by show b4+1<b4+2;omega)) _).set (p:=⟨b4,1,none⟩) (.inl (by show b4<b4+2;omega)) _)
         clear ha0
         cases b2 with
         | true =>
           go_wp2
           go_meet
           case rel =>
            rw [HPX.out,HD.out]
            have ha:=HAB.out true
            have hi:=HI4.out.keep ha
            exact ⟨_,_,_,_,_,_,(((HX4.out.setE 2 (.slice none 0 0)).setE 3 (.slice none 0 0)).setE 4 (.slice none 0 0)).setB true,HBS2.out,⟨cols_none _ _,ints_none _ _,lists_none _ _,hi.o,hi.n,hi.ns⟩,HTL.out⟩
         | false =>
           go_wp2
           go_meet
           case rel =>
            rw [HPX.out,HD.out]
            have ha:=HAB.out true
            have hi:=HI4.out.keep ha
            exact ⟨_,_,_,_,_,_,(((HX4.out.setE 2 (.slice none 0 0)).setE 3 (.slice none 0 0)).setE 4 (.slice none 0 0)).setB true,HBS2.out,⟨cols_none _ _,ints_none _ _,lists_none _ _,hi.o,hi.n,hi.ns⟩,HTL.out⟩
       | some q =>
         obtain ⟨sc,sk,su⟩:=q
         rw [hd] at HD HS
         dsimp only at HD
         clear hd
         go_wp2_with fail
         refine HC.out.mono ?_
         rintro e2 w2 ⟨vB2,rfl,hbs2,hb2⟩
         have HX2:=Lib.hid (HDX.out.below hb2)
         have HI2:=Lib.hid (HIN.out.keep (above_bel (n:=b4+2) hb2))
         have HBS2:=Lib.hid hbs2
         obtain ⟨A2,c2,rfl,-⟩:=hbs2
         clear p0 p1 f0 f1 l0 l1 hb2
         obtain ⟨p0,p1,f0,f1,l0,l1⟩:=HX2.out.facts
         go_wp2_with fail
         obtain ⟨W3,hW3⟩ : ∃ W,W=(w2.setCell ⟨b4,0,none⟩ (.slice A2 r2.length c2)).setCell ⟨b4,1,none⟩ (.bool b2):=⟨_,rfl⟩
         rw [← hW3]
         have HX3:Hid (DX w b4 W3 _ (.slice A2 r2.length c2) b2):=Lib.hid (by rw [hW3];exact HX2.out.setR _ _)
         have HI3:=Lib.hid (HI2.out.keep (show Above (b4+2) w2 W3 by rw [hW3];exact above_R (Above.refl (b4+2) w2) (b4:=b4) (by omega) _ _))
         have hby:=bytes_bel y W3
         have hs3:W3.heap.size=w2.heap.size:=by rw [hW3];simp
         have HS3:=HS.out W3
         rw [hs3] at HS3
         clear hW3 hs3 p0 p1 f0 f1 l0 l1 HX2 HI2
         refine HS3.mono ?_
         rintro e3 w3 ⟨uc,uk,uu,rfl,hc,hk,hu,hb3⟩
         have hbz1:b4+2≤(Lib.bytesWorld W3 5 ⟨y.toArray⟩).heap.size:=Nat.le_trans HX3.out.ev.lt hby.size
         have HCKU:=Lib.hid (And.intro (hc.less hbz1) (And.intro (hk.less hbz1) (hu.less hbz1)))
         obtain ⟨A7,c7,rfl,-⟩:=hc.at_
         obtain ⟨A8,c8,rfl,-⟩:=hk.at_
         obtain ⟨A9,c9,rfl,-⟩:=hu.at_
         clear hc hk hu hbz1
         have HX4:=Lib.hid ((HX3.out.below hby).below hb3)
         have HI4:=Lib.hid (HI3.out.keep (above_bel (n:=b4+2) (hby.then_ hb3)))
         clear hby hb3
         obtain ⟨p0,p1,f0,f1,l0,l1⟩:=HX4.out.facts
         have q2:w3.cell? ⟨b4+1,2,none⟩=some (.slice Ac x.c.length cc):=HX4.out.ev.cell 2
         have q3:w3.cell? ⟨b4+1,3,none⟩=some (.slice Ak x.ky.length ck):=HX4.out.ev.cell 3
         have q4:w3.cell? ⟨b4+1,4,none⟩=some (.slice Au x.u.length cu):=HX4.out.ev.cell 4
         have g2:w3.frozen? ⟨b4+1,2,none⟩=false:=HX4.out.ev.frozen 2
         have g3:w3.frozen? ⟨b4+1,3,none⟩=false:=HX4.out.ev.frozen 3
         have g4:w3.frozen? ⟨b4+1,4,none⟩=false:=HX4.out.ev.frozen 4
         have ha0 : ∀ (V:World),Above (b4+2) w3 V→Above (b4+2) w3 (V.setCell ⟨b4+1,2,none⟩ (.slice A7 sc.length c7)):=fun V h=>h.set (p:=⟨b4+1,2,none⟩) (.inl (by show b4+1<b4+2;omega)) _
         have HAB:Hid (∀ b',Above (b4+2) w3 ((((w3.setCell ⟨b4+1,2,none⟩ (.slice A7 sc.length c7)).setCell ⟨b4+1,3,none⟩ (.slice A8 sk.length c8)).setCell ⟨b4+1,4,none⟩ (.slice A9 su.length c9)).setCell ⟨b4,1,none⟩ (.bool b'))):=Lib.hid (fun b'=>((((Above.refl (b4+2) w3).set (p:=⟨b4+1,2,none⟩) (.inl (by show b4+1<b4+2;omega)) _).set (p:=⟨b4+1,3,none⟩) (.inl (by show b4+1<b4+2;omega)) _).set (p:=⟨b4+1,4,none⟩) (.inl (by show b4+1<b4+2;omega)) _).set (p:=⟨b4,1,none⟩) (.inl (by show b4<b4+2;omega)) _)
         clear ha0
         cases b2 with
         | true =>
           go_wp2
           go_meet
           case rel =>
            rw [HPX.out,HD.out]
            have ha:=HAB.out true
            have hi:=HI4.out.keep ha
            exact ⟨_,_,_,_,_,_,(((HX4.out.setE 2 (.slice A7 sc.length c7)).setE 3 (.slice A8 sk.length c8)).setE 4 (.slice A9 su.length c9)).setB true,HBS2.out,⟨cols_keep8 HCKU.out.1 ha,ints_keep8 HCKU.out.2.1 ha,lists_keep8 HCKU.out.2.2 ha,hi.o,hi.n,hi.ns⟩,HTL.out⟩
         | false =>
           go_wp2
           go_meet
           case rel =>
            rw [HPX.out,HD.out]
            have ha:=HAB.out false
            have hi:=HI4.out.keep ha
            exact ⟨_,_,_,_,_,_,(((HX4.out.setE 2 (.slice A7 sc.length c7)).setE 3 (.slice A8 sk.length c8)).setE 4 (.slice A9 su.length c9)).setB false,HBS2.out,⟨cols_keep8 HCKU.out.1 ha,ints_keep8 HCKU.out.2.1 ha,lists_keep8 HCKU.out.2.2 ha,hi.o,hi.n,hi.ns⟩,HTL.out⟩
      case rest =>
       have HST:=Lib.hid (show St w b4 s.length (d8s P3) wc from hcut)
       clear hcut
       obtain ⟨P4,hP⟩ : ∃ P,P=d8s P3:=⟨_,rfl⟩
       rw [← hP] at HST HDEC HWF HSZ
       have hkk:P4.2.k=k:=by rw [hP,d8s_k];exact hkk
       have hns0:P4.2.ns=[]:=by rw [hP,d8s_ns];exact hns0
       clear hP
       go_upto_if 76 with fail
       refine wp_name8 ?_
       intro WW hWW
       rw [← hWW] at HST
       clear hWW
       go_cut [9] (fun v wx=>v = .int .i64 (d8q P4).2∧St w b4 s.length ((d8q P4).1,P4.2) wx)
       case first =>
        obtain ⟨⟨⟨r,b⟩,x⟩,hpx⟩ : ∃ q,P4=q:=⟨_,rfl⟩
        have HPX:=Lib.hid hpx
        rw [hpx] at HST hkk hns0
        clear hpx
        dsimp only at hkk hns0
        obtain ⟨vB,vc,vk,vu,vo,vn,hdx,hbs,hin,hln⟩:=HST.out
        have hlr:r.length≤1000000:=Nat.le_trans hln HHS.out
        have HDX:Hid (DX _ _ _ _ _ _):=Lib.hid hdx
        have HIN:Hid (EvIn _ _ _ _ _ _ _ _ _):=Lib.hid hin
        have HBR:Hid (BsAt w vB r):=Lib.hid hbs
        have HLN:Hid (r.length≤s.length):=Lib.hid hln
        obtain ⟨AB,cB,rfl,-⟩:=hbs
        obtain ⟨Ac,cc,Ak,ck,Au,cu,Ao,co,An,cn,As,cs,rfl,rfl,rfl,rfl,rfl,-⟩:=hin.at_.opened
        unfold evCells at HDX hdx
        obtain ⟨p0,p1,f0,f1,l0,l1⟩:=hdx.facts
        clear hin hln
        by_cases h6:k=6
        case neg =>
         have hb:((k:Int) == 6)=false:=by rw [beq_eq_false_iff_ne];omega
         have hxk : ¬ x.k=6:=by rw [hkk];omega
         have HD:Hid (d8q ((r,b),x)=((r,b),0)):=Lib.hid (if_neg hxk)
         clear h6
         go_wp2
         go_meet
         case rel =>
          rw [HPX.out,HD.out]
          exact ⟨rfl,_,_,_,_,_,_,HDX.out,HBR.out,HIN.out,HLN.out⟩
        have hb:((k:Int) == 6)=true:=by rw [h6];rfl
        have hxk:x.k=6:=by rw [hkk,h6];rfl
        have HD:Hid (d8q ((r,b),x)=n8 r b):=Lib.hid (if_pos hxk)
        have HC:=Lib.hid (r8number_any (.slice AB r.length cB) r b hlr w _ HDX.out.bel HBR.out)
        have htl:=n8_le r b
        generalize n8 r b=T at HD HC htl
        obtain ⟨⟨r2,b2⟩,y⟩:=T
        dsimp only at HD HC htl
        have HTL:Hid (r2.length≤s.length):=Lib.hid (Nat.le_trans htl.1 HLN.out)
        clear h6 hxk htl
        go_wp2_with fail
        refine HC.out.mono ?_
        rintro e2 w2 ⟨vB2,rfl,hbs2,hb2⟩
        have HX2:=Lib.hid (HDX.out.below hb2)
        have HI2:=Lib.hid (HIN.out.keep (above_bel (n:=b4+2) hb2))
        have HBS2:=Lib.hid hbs2
        obtain ⟨A2,c2,rfl,-⟩:=hbs2
        clear p0 p1 f0 f1 l0 l1 hb2
        obtain ⟨p0,p1,f0,f1,l0,l1⟩:=HX2.out.facts
        go_wp2
        go_meet
        case rel =>
         rw [HPX.out,HD.out]
         exact ⟨rfl,_,_,_,_,_,_,HX2.out.setR (.slice A2 r2.length c2) b2,HBS2.out,HI2.out.keep (above_R (Above.refl (b4+2) w2) (b4:=b4) (by omega) _ _),HTL.out⟩
       case rest =>
        obtain ⟨rfl,hst⟩:=hcut
        have hn5:=(d8q_len P4).2
        have hd8p:d8p P4=((ps8 (min (d8q P4).2 5) (d8q P4).1 []).1,{ P4.2 with ns:=(ps8 (min (d8q P4).2 5) (d8q P4).1 []).2 }):=rfl
        rw [hd8p] at HDEC HWF HSZ
        clear hd8p
        obtain ⟨N,hN⟩ : ∃ N,d8q P4=N:=⟨_,rfl⟩
        rw [hN] at HDEC HWF HSZ hst hn5 ⊢
        clear hN HST
        obtain ⟨q5,n5⟩:=N
        obtain ⟨q4,x⟩:=P4
        dsimp only at HDEC HWF HSZ hst hn5 hkk hns0 ⊢
        obtain ⟨R,hR⟩ : ∃ R,ps8 (min n5 5) q5 []=R:=⟨_,rfl⟩
        rw [hR] at HDEC HWF HSZ
        have HRR:=Lib.hid hR
        clear hR
        obtain ⟨vB,vc,vk,vu,vo,vn,hdx,hbs,hin,hln⟩:=hst
        obtain ⟨Ac,cc,Ak,ck,Au,cu,Ao,co,An,cn,As,cs,rfl,rfl,rfl,rfl,rfl,-⟩:=hin.at_.opened
        have H0:=Lib.hid (And.intro hdx (And.intro hbs (And.intro hin hln)))
        clear hdx hbs hin hln
        obtain ⟨i0,hi0,hz0,hz1,hz2⟩:=info_parts infoP
        have hp2:(0:Nat)<2:=by omega
        have hnI:(n5:Int)≤1000:=by omega
        go_wp2
        go_loopw [10] (fun i wr=>∃ (j:Nat) (L:List (ByteArray×ByteArray)) (q:Q8) (A':Option Addr) (c':Nat),j≤min n5 5∧i = .int .i64 j∧Hid (ps8 (min n5 5 - j) q L=R∧L.length=j) ∧
         Hid (∃ vB,DX w b4 wr #[.int .i64 x.k,.string x.t,.slice Ac x.c.length cc,.slice Ak x.ky.length ck,.slice Au x.u.length cu,.slice Ao x.o.length co,.slice An x.n.length cn,.slice A' j c'] vB q.2∧BsAt w vB q.1∧EvIn (b4+2) wr (.slice Ac x.c.length cc) (.slice Ak x.ky.length ck) (.slice Au x.u.length cu) (.slice Ao x.o.length co) (.slice An x.n.length cn) (.slice none 0 0) x∧q.1.length≤s.length∧wr.ownsRow (b4+2) 68 2 (.slice A' j c') j (prows L))) (fun i _=>min n5 5 - (intOf i).toNat)
        case atStart=>exact ⟨0,[],q5,none,0,Nat.zero_le _,rfl,⟨HRR.out,rfl⟩,_,H0.out.1,H0.out.2.1,H0.out.2.2.1,H0.out.2.2.2,World.ownsRow_nil _ _ _ _⟩
        case round =>
         obtain ⟨j,L,q,A',c',hj,rfl,HPL,HSN⟩:=hrel
         obtain ⟨⟨r,b⟩,hq⟩ : ∃ q',q=q':=⟨_,rfl⟩
         subst hq
         obtain ⟨vB,hdx,hbs,hin,hlq,hrow⟩:=HSN.out
         dsimp only at hdx hbs hlq
         have hlr:r.length≤1000000:=Nat.le_trans hlq HHS.out
         have HBR:Hid (BsAt w vB r):=Lib.hid hbs
         have HIR:=Lib.hid (And.intro hin hrow)
         have HDX:Hid (DX _ _ _ _ _ _):=Lib.hid hdx
         have HLN:=Lib.hid hlq
         obtain ⟨AB,cB,rfl,-⟩:=hbs
         clear hin hrow hlq HSN
         by_cases hlt:j<min n5 5
         ·have hjn:(j:Int)<n5:=by omega
          have hj5:(j:Int)<5:=by omega
          have hnb:b4+1<wr.heap.size:=hdx.ev.lt
          have HC1:=Lib.hid (fun V (hV:Bel wr V)=>r8Text_any (.slice AB r.length cB) r b hlr w V (HDX.out.bel.then_ hV) HBR.out)
          have htl:=t8_len r b
          have HNX:Hid (ps8 (min n5 5 - (j+1)) (t8 (t8 r b).1.1 (t8 r b).1.2).1 (L ++ [(⟨(t8 r b).2.toArray⟩,⟨(t8 (t8 r b).1.1 (t8 r b).1.2).2.toArray⟩)])=R):=by
           have h:=HPL.out.1
           rw [show min n5 5 - j=(min n5 5 - (j+1))+1 by omega] at h
           exact Lib.hid h
          have HLL:=Lib.hid HPL.out.2
          clear HPL
          generalize t8 r b=T at HC1 htl HNX
          obtain ⟨⟨r1,b1⟩,a⟩:=T
          dsimp only at HC1 htl HNX
          have hlr1:r1.length≤1000000:=Nat.le_trans htl.1 hlr
          have htl1:=t8_len r1 b1
          have HC2:=Lib.hid (fun v V (hV:Bel w V) (hb:BsAt w v r1)=>r8Text_any v r1 b1 hlr1 w V hV hb)
          generalize t8 r1 b1=T at HC2 htl1 HNX
          obtain ⟨⟨r2,b2⟩,y⟩:=T
          dsimp only at HC2 htl1 HNX
          have HTL:Hid (r2.length≤s.length):=Lib.hid (Nat.le_trans htl1.1 (Nat.le_trans htl.1 HLN.out))
          unfold strV at HC1 HC2
          obtain ⟨p0,p1,f0,f1,l0,l1⟩:=hdx.facts
          clear htl htl1 hlr hlr1 hdx
          go_wp2_with fail
          refine (HC1.out _ ((Bel.refl wr).alloc _)).mono ?_
          rintro e2 w2 ⟨vB2,rfl,hbs2,hb2⟩
          have hal:=((Bel.refl wr).alloc (.cells #[.string ⟨#[]⟩,.string ⟨#[]⟩] 68)).then_ hb2
          have HX2:=Lib.hid (HDX.out.below hal)
          have HPB2:=Lib.hid ((Blk.new wr 68 #[.string ⟨#[]⟩,.string ⟨#[]⟩]).below hb2 (Blk.new wr _ _).lt)
          have HA2:=Lib.hid (And.intro (above_bel (n:=b4+2) hal) hal.size)
          have HBS2:=Lib.hid hbs2
          obtain ⟨A2,c2,rfl,-⟩:=hbs2
          clear p0 p1 f0 f1 l0 l1 hal hb2
          obtain ⟨p0,p1,f0,f1,l0,l1⟩:=HX2.out.facts
          have q0:w2.cell? ⟨wr.heap.size,0,none⟩=some (.string ⟨#[]⟩):=HPB2.out.cell 0
          have q1:w2.cell? ⟨wr.heap.size,1,none⟩=some (.string ⟨#[]⟩):=HPB2.out.cell 1
          have g0:=HPB2.out.frozen 0
          have lq:=HPB2.out.lt
          go_upto_region 23 with fail
          refine wp_name8 ?_
          intro W3 hW3
          have HX3:Hid (DX w b4 W3 _ (.slice A2 r1.length c2) b1):=Lib.hid (by rw [hW3];exact (HX2.out.setR (.slice A2 r1.length c2) b1).far (p:=⟨wr.heap.size,0,none⟩) hnb (.string ⟨a.toArray⟩))
          have HPB3:Hid (Blk W3 wr.heap.size 68 #[.string ⟨a.toArray⟩,.string ⟨#[]⟩]):=Lib.hid (by rw [hW3];exact ((HPB2.out.far (p:=⟨b4,0,none⟩) (by show _ ≠ b4;omega) (.slice A2 r1.length c2)).far (p:=⟨b4,1,none⟩) (by show _ ≠ b4;omega) (.bool b1)).set_ 0 (.string ⟨a.toArray⟩))
          have HA3:Hid (Above (b4+2) wr W3∧wr.heap.size≤W3.heap.size):=Lib.hid (by rw [hW3];exact ⟨(above_R HA2.out.1 (b4:=b4) (by omega) (.slice A2 r1.length c2) b1).set (p:=⟨wr.heap.size,0,none⟩) (.inr (Nat.le_refl _)) (.string ⟨a.toArray⟩),by simp only [set_size];exact HA2.out.2⟩)
          clear hW3 p0 p1 f0 f1 l0 l1 q0 q1 g0 lq HX2 HPB2 HA2
          obtain ⟨p0,p1,f0,f1,l0,l1⟩:=HX3.out.facts
          go_wp2_with fail
          refine (HC2.out _ _ HX3.out.bel HBS2.out).mono ?_
          rintro e4 w4 ⟨vB4,rfl,hbs4,hb4⟩
          have HX4:=Lib.hid (HX3.out.below hb4)
          have HPB4:=Lib.hid (HPB3.out.below hb4 HPB3.out.lt)
          have HA4:=Lib.hid (And.intro (HA3.out.1.bel hb4 HA3.out.2) (Nat.le_trans HA3.out.2 hb4.size))
          have HBS4:=Lib.hid hbs4
          obtain ⟨A4,c4,rfl,-⟩:=hbs4
          clear p0 p1 f0 f1 l0 l1 hb4 HX3 HPB3 HA3
          obtain ⟨p0,p1,f0,f1,l0,l1⟩:=HX4.out.facts
          have q0:w4.cell? ⟨wr.heap.size,0,none⟩=some (.string ⟨a.toArray⟩):=HPB4.out.cell 0
          have q1:w4.cell? ⟨wr.heap.size,1,none⟩=some (.string ⟨#[]⟩):=HPB4.out.cell 1
          have g1:=HPB4.out.frozen 1
          have lq:=HPB4.out.lt
          go_upto_region 24 with fail
          refine wp_name8 ?_
          intro W5 hW5
          have HX5:Hid (DX w b4 W5 _ (.slice A4 r2.length c4) b2):=Lib.hid (by rw [hW5];exact (HX4.out.setR (.slice A4 r2.length c4) b2).far (p:=⟨wr.heap.size,1,none⟩) hnb (.string ⟨y.toArray⟩))
          have HPB5:Hid (Blk W5 wr.heap.size 68 #[.string ⟨a.toArray⟩,.string ⟨y.toArray⟩]):=Lib.hid (by rw [hW5];exact ((HPB4.out.far (p:=⟨b4,0,none⟩) (by show _ ≠ b4;omega) (.slice A4 r2.length c4)).far (p:=⟨b4,1,none⟩) (by show _ ≠ b4;omega) (.bool b2)).set_ 1 (.string ⟨y.toArray⟩))
          have HA5:Hid (Above (b4+2) wr W5∧wr.heap.size≤W5.heap.size):=Lib.hid (by rw [hW5];exact ⟨(above_R HA4.out.1 (b4:=b4) (by omega) (.slice A4 r2.length c4) b2).set (p:=⟨wr.heap.size,1,none⟩) (.inr (Nat.le_refl _)) (.string ⟨y.toArray⟩),by simp only [set_size];exact HA4.out.2⟩)
          clear hW5 p0 p1 f0 f1 l0 l1 q0 q1 g1 lq HX4 HPB4 HA4
          have q0:W5.cell? ⟨wr.heap.size,0,none⟩=some (.string ⟨a.toArray⟩):=HPB5.out.cell 0
          have q1:W5.cell? ⟨wr.heap.size,1,none⟩=some (.string ⟨y.toArray⟩):=HPB5.out.cell 1
          have x7:W5.cell? ⟨b4+1,7,none⟩=some (.slice A' j c'):=HX5.out.ev.cell 7
          have l1:=HX5.out.ev.lt
          have lq:=HPB5.out.lt
          have hal:=(Bel.refl W5).alloc (.cells #[.string ⟨a.toArray⟩,.string ⟨y.toArray⟩] 68)
          have HX6:=Lib.hid (HX5.out.below hal)
          have HA6:=Lib.hid (HA5.out.1.bel hal HA5.out.2)
          have HE6:=Lib.hid (HIR.out.1.keep HA6.out)
          have HW6:=Lib.hid (own_above HA6.out HIR.out.2 (Nat.le_refl _))
          have HS6:Hid (b4+2≤(W5.alloc (.cells #[.string ⟨a.toArray⟩,.string ⟨y.toArray⟩] 68)).heap.size):=Lib.hid HX6.out.ev.lt
          have HRD:=Lib.hid (reads2 W5 68 (.string ⟨a.toArray⟩) (.string ⟨y.toArray⟩))
          have hone : ∀ u ∈ [(.string ⟨a.toArray⟩:Value),.string ⟨y.toArray⟩],u.oneCell'=true:=fun u hu=>by
           simp at hu
           rcases hu with rfl | rfl <;> rfl
          have h63:j+1≤maxLen:=by unfold maxLen;omega
          have hby:(j+1) * 32≤140737488355328:=by omega
          clear hal HA6 HA5 HPB5
          go_wp2_with (at_builtin;refine wpList_append_any _ rfl (.tmp 104) (.tmp 106) 29 rfl (b4+2) 68 i0 _ 2 32 Tryz.underlying29 hi0 hz0 hz1 hz2 rfl hp2 (.slice A' j c') j (prows L) (by rfl) HW6.out _ (some ⟨W5.heap.size,0,none⟩) 1 1 _ (by rfl) HRD.out hone h63 hby HS6.out ?_;intro v9 w9 hown9 hg9 hat9;obtain ⟨A9,c9,rfl⟩:=row_any hown9;have hlt9:=fun j e=>(HW6.out.lt j e).1;have H9:=Lib.hid (HX6.out.grown hg9 hlt9);have HE9:=Lib.hid (HE6.out.names hns0 HW6.out hg9);have HW9:Hid (w9.ownsRow (b4+2) 68 2 (.slice A9 (j+1) c9) (j+1) (prows (L ++ [((⟨a.toArray⟩:ByteArray),(⟨y.toArray⟩:ByteArray))]))):=Lib.hid (by rw [prows_append];exact hown9);have y7:w9.cell? ⟨b4+1,7,none⟩=some (.slice A' j c'):=H9.out.ev.cell 7;have yf:w9.frozen? ⟨b4+1,7,none⟩=false:=H9.out.ev.frozen 7;clear hown9 hg9 hat9 hlt9)
          go_roundw
          case rel =>
           have ha:=(Above.refl (b4+2) w9).set (p:=⟨b4+1,7,none⟩) (.inl (by show b4+1<b4+2;omega)) (.slice A9 (j+1) c9)
           exact ⟨j+1,_,(r2,b2),A9,c9,hlt,by go_num,⟨HNX.out,by rw [List.length_append,HLL.out];rfl⟩,_,H9.out.setE 7 (.slice A9 (j+1) c9),HBS4.out,HE9.out.keep ha,HTL.out,own_above ha HW9.out (Nat.le_refl _)⟩
          case measure=>simp [intOf];omega
         ·obtain rfl:j=min n5 5:=by omega
          have HPE:Hid (R=((r,b),L)):=by
           have h:=HPL.out.1
           rw [Nat.sub_self] at h
           exact Lib.hid h.symm
          have HLL:Hid (min n5 5=L.length):=Lib.hid HPL.out.2.symm
          rw [HPE.out] at HDEC HWF HSZ
          dsimp only at HDEC HWF HSZ
          obtain ⟨X,hX⟩ : ∃ X:Ev,X = { x with ns:=L }:=⟨_,rfl⟩
          rw [← hX] at HDEC HWF HSZ
          have HEV:Hid (EvIn (b4+2) wr (.slice Ac x.c.length cc) (.slice Ak x.ky.length ck) (.slice Au x.u.length cu) (.slice Ao x.o.length co) (.slice An x.n.length cn) (.slice A' (min n5 5) c') X):=Lib.hid (by
           rw [hX]
           refine ⟨HIR.out.1.c,HIR.out.1.ky,HIR.out.1.u,HIR.out.1.o,HIR.out.1.n,b4+2,Nat.le_refl _, ?_⟩
           have h:=HIR.out.2
           rw [HLL.out] at h ⊢
           exact h)
          have HEN:=Lib.hid (r8Encode_any X _ _ _ _ _ _ wr HWF.out ⟨Nat.le_trans (Nat.le_trans HSZ.out.1 HHS.out) (by decide),(fun c hc=>Nat.le_trans ((sz8_ok HHS.out HSZ.out).1 c hc) (by decide)),fun p hp=>⟨Nat.le_trans (Nat.le_trans (HSZ.out.2.2 p hp).1 HHS.out) (by decide),Nat.le_trans (Nat.le_trans (HSZ.out.2.2 p hp).2 HHS.out) (by decide)⟩⟩ (sz8_ok HHS.out HSZ.out).2 HEV.out.at_)
          have hXk:X.k=x.k:=by rw [hX]
          have hXt:X.t=x.t:=by rw [hX]
          rw [hXk,hXt,hkk] at HEN
          have HXK:=Lib.hid (And.intro (hXk.trans hkk) hXt)
          unfold evV GivesE8 at HEN
          clear hX hXk hXt HPL HIR hlt hj
          obtain ⟨p0,p1,f0,f1,l0,l1⟩:=hdx.facts
          have q0:wr.cell? ⟨b4+1,0,none⟩=some (.int .i64 k):=by rw [hdx.ev.cell 0,← hkk];rfl
          have q1:wr.cell? ⟨b4+1,1,none⟩=some (.string x.t):=hdx.ev.cell 1
          have q2:wr.cell? ⟨b4+1,2,none⟩=some (.slice Ac x.c.length cc):=hdx.ev.cell 2
          have q3:wr.cell? ⟨b4+1,3,none⟩=some (.slice Ak x.ky.length ck):=hdx.ev.cell 3
          have q4:wr.cell? ⟨b4+1,4,none⟩=some (.slice Au x.u.length cu):=hdx.ev.cell 4
          have q5':wr.cell? ⟨b4+1,5,none⟩=some (.slice Ao x.o.length co):=hdx.ev.cell 5
          have q6:wr.cell? ⟨b4+1,6,none⟩=some (.slice An x.n.length cn):=hdx.ev.cell 6
          have q7:wr.cell? ⟨b4+1,7,none⟩=some (.slice A' (min n5 5) c'):=hdx.ev.cell 7
          clear hdx
          have hmm:(¬ ((min n5 5:Nat):Int)<n5) ∨ ((((min n5 5:Nat):Int)<n5) ∧ ¬ (((min n5 5:Nat):Int)<5)):=by omega
          rcases hmm with hmm | ⟨hmm,hmm5⟩
          all_goals
           go_wp2_with fail
           refine HEN.out.mono ?_
           rintro e7 w7 ⟨v7,rfl,hv7,hb7⟩
           have HX7:=Lib.hid (HDX.out.below hb7)
           have HE7:=Lib.hid (HEV.out.keep (above_bel (n:=b4+2) hb7))
           have hbs7:=HBS.out.bel (HDX.out.bel.then_ hb7)
           obtain ⟨A7,c7,rfl,-,-,r7⟩:=hv7
           obtain ⟨Ab',cb',hbe,-,-,rb⟩:=hbs7
           injection hbe with hbe1 hbe2 hbe3
           subst hbe1 hbe3
           have hlw:=HX7.out.lt
           have HZ:=Lib.hid (set8_cells HX7.out.res (.int .i64 0) (.string ⟨#[]⟩) (.slice none 0 0) (.slice none 0 0) (.slice none 0 0) (.slice none 0 0) (.slice none 0 0) (.slice none 0 0))
           have HY:=Lib.hid (set8_cells HX7.out.res (.int .i64 k) (.string x.t) (.slice Ac x.c.length cc) (.slice Ak x.ky.length ck) (.slice Au x.u.length cu) (.slice Ao x.o.length co) (.slice An x.n.length cn) (.slice A' (min n5 5) c'))
           have HZB:=Lib.hid (set8_bel HX7.out.bel (.int .i64 0) (.string ⟨#[]⟩) (.slice none 0 0) (.slice none 0 0) (.slice none 0 0) (.slice none 0 0) (.slice none 0 0) (.slice none 0 0))
           have HYB:=Lib.hid (set8_bel HX7.out.bel (.int .i64 k) (.string x.t) (.slice Ac x.c.length cc) (.slice Ak x.ky.length ck) (.slice Au x.u.length cu) (.slice Ao x.o.length co) (.slice An x.n.length cn) (.slice A' (min n5 5) c'))
           have HYA:=Lib.hid (HE7.out.keep (set8_above (b:=w.heap.size) (n:=b4+2) w7 (by omega) (.int .i64 k) (.string x.t) (.slice Ac x.c.length cc) (.slice Ak x.ky.length ck) (.slice Au x.u.length cu) (.slice Ao x.o.length co) (.slice An x.n.length cn) (.slice A' (min n5 5) c')))
           have hca:(convert 34 9 (.slice A7 (encER X).1.length c7)).run Tryz.prog w7 = .ok (.string ⟨(encER X).1.toArray⟩) w7:=conv_reads _ r7
           have hcb:(convert 34 9 (.slice A s.length c)).run Tryz.prog w7 = .ok (.string ⟨s.toArray⟩) w7:=conv_reads (s:=s) _ rb
           clear p0 p1 f0 f1 l0 l1 q0 q1 q2 q3 q4 q5' q6 q7 hb7 r7 rb hbe2
           obtain ⟨p0,p1,f0,f1,l0,l1⟩:=HX7.out.facts
           have q0:w7.cell? ⟨b4+1,0,none⟩=some (.int .i64 k):=by rw [HX7.out.ev.cell 0,← hkk];rfl
           have q1:w7.cell? ⟨b4+1,1,none⟩=some (.string x.t):=HX7.out.ev.cell 1
           have q2:w7.cell? ⟨b4+1,2,none⟩=some (.slice Ac x.c.length cc):=HX7.out.ev.cell 2
           have q3:w7.cell? ⟨b4+1,3,none⟩=some (.slice Ak x.ky.length ck):=HX7.out.ev.cell 3
           have q4:w7.cell? ⟨b4+1,4,none⟩=some (.slice Au x.u.length cu):=HX7.out.ev.cell 4
           have q5':w7.cell? ⟨b4+1,5,none⟩=some (.slice Ao x.o.length co):=HX7.out.ev.cell 5
           have q6:w7.cell? ⟨b4+1,6,none⟩=some (.slice An x.n.length cn):=HX7.out.ev.cell 6
           have q7:w7.cell? ⟨b4+1,7,none⟩=some (.slice A' (min n5 5) c'):=HX7.out.ev.cell 7
           have z0:w7.cell? ⟨w.heap.size,0,none⟩=some (.int .i64 0):=HX7.out.res.cell 0
           have y0:=HX7.out.res.frozen 0
           have z1:w7.cell? ⟨w.heap.size,1,none⟩=some (.string ⟨#[]⟩):=HX7.out.res.cell 1
           have y1:=HX7.out.res.frozen 1
           have z2:w7.cell? ⟨w.heap.size,2,none⟩=some (.slice none 0 0):=HX7.out.res.cell 2
           have y2:=HX7.out.res.frozen 2
           have z3:w7.cell? ⟨w.heap.size,3,none⟩=some (.slice none 0 0):=HX7.out.res.cell 3
           have y3:=HX7.out.res.frozen 3
           have z4:w7.cell? ⟨w.heap.size,4,none⟩=some (.slice none 0 0):=HX7.out.res.cell 4
           have y4:=HX7.out.res.frozen 4
           have z5:w7.cell? ⟨w.heap.size,5,none⟩=some (.slice none 0 0):=HX7.out.res.cell 5
           have y5:=HX7.out.res.frozen 5
           have z6:w7.cell? ⟨w.heap.size,6,none⟩=some (.slice none 0 0):=HX7.out.res.cell 6
           have y6:=HX7.out.res.frozen 6
           have z7:w7.cell? ⟨w.heap.size,7,none⟩=some (.slice none 0 0):=HX7.out.res.cell 7
           have y7:=HX7.out.res.frozen 7
           have hlz:=HX7.out.res.lt
           cases b with
           | true =>
             have HD:Hid (dec8 s=(evOf 0,180)):=HDEC.out.trans (if_neg (fun h=>by cases h.1))
             generalize encER X=EX at hca ⊢
             go_wp2
             obtain ⟨t0,t1,t2,t3,t4,t5,t6,t7⟩:=HZ.out
             refine bodyPost_ret (v:=.tuple #[.agg #[.int .i64 0,.string ⟨#[]⟩,.slice none 0 0,.slice none 0 0,.slice none 0 0,.slice none 0 0,.slice none 0 0,.slice none 0 0],.int .i64 180]) (by simp [results,Tryz.results17,go_sem,t0,t1,t2,t3,t4,t5,t6,t7]) rfl ?_
             unfold GivesD8
             rw [HD.out]
             exact ⟨_,_,_,_,_,_,rfl,⟨cols_none _ _,ints_none _ _,lists_none _ _,vals_none _ _,vals_none _ _,pairs_none _ _⟩,HZB.out⟩
           | false =>
             by_cases hri:rightE X=true
             ·have hen:encER X=(encE X,0):=if_pos hri
              rw [hen] at hca ⊢
              dsimp only at hca ⊢
              obtain ⟨SE,hSE⟩ : ∃ x:ByteArray,x=⟨(encE X).toArray⟩:=⟨_,rfl⟩
              obtain ⟨SB,hSB⟩ : ∃ x:ByteArray,x=⟨s.toArray⟩:=⟨_,rfl⟩
              rw [← hSE] at hca
              rw [← hSB] at hcb
              by_cases heq:encE X=s
              ·have HD:Hid (dec8 s=(X,0)):=HDEC.out.trans (if_pos ⟨rfl,hri,heq⟩)
               obtain rfl:SE=SB:=by rw [hSE,hSB,heq]
               clear hSE hSB heq hri hen
               go_wp2
               obtain ⟨t0,t1,t2,t3,t4,t5,t6,t7⟩:=HY.out
               refine bodyPost_ret (v:=.tuple #[.agg #[.int .i64 k,.string x.t,.slice Ac x.c.length cc,.slice Ak x.ky.length ck,.slice Au x.u.length cu,.slice Ao x.o.length co,.slice An x.n.length cn,.slice A' (min n5 5) c'],.int .i64 0]) (by simp [results,Tryz.results17,go_sem,t0,t1,t2,t3,t4,t5,t6,t7]) rfl ?_
               unfold GivesD8
               rw [HD.out]
               exact ⟨_,_,_,_,_,_,by unfold evV;dsimp only;rw [HXK.out.1,HXK.out.2],HYA.out.less (by omega),HYB.out⟩
              ·have HD:Hid (dec8 s=(evOf 0,180)):=HDEC.out.trans (if_neg (fun h=>heq h.2.2))
               have hne:(SE.toList == SB.toList)=false:=by
                rw [hSE,hSB,str_beq]
                exact decide_eq_false fun e=>heq (by have:=congrArg ByteArray.data e;simpa using this)
               have hne2:(SE.toList != SB.toList)=true:=by rw [bne,hne];rfl
               clear hSE hSB heq hri hen
               go_wp2
               obtain ⟨t0,t1,t2,t3,t4,t5,t6,t7⟩:=HZ.out
               refine bodyPost_ret (v:=.tuple #[.agg #[.int .i64 0,.string ⟨#[]⟩,.slice none 0 0,.slice none 0 0,.slice none 0 0,.slice none 0 0,.slice none 0 0,.slice none 0 0],.int .i64 180]) (by simp [results,Tryz.results17,go_sem,t0,t1,t2,t3,t4,t5,t6,t7]) rfl ?_
               unfold GivesD8
               rw [HD.out]
               exact ⟨_,_,_,_,_,_,rfl,⟨cols_none _ _,ints_none _ _,lists_none _ _,vals_none _ _,vals_none _ _,pairs_none _ _⟩,HZB.out⟩
             ·have hen:encER X=([],2):=if_neg hri
              have HD:Hid (dec8 s=(evOf 0,180)):=HDEC.out.trans (if_neg (fun h=>hri h.2.1))
              rw [hen] at hca ⊢
              dsimp only at hca ⊢
              clear hri hen
              go_wp2
              obtain ⟨t0,t1,t2,t3,t4,t5,t6,t7⟩:=HZ.out
              refine bodyPost_ret (v:=.tuple #[.agg #[.int .i64 0,.string ⟨#[]⟩,.slice none 0 0,.slice none 0 0,.slice none 0 0,.slice none 0 0,.slice none 0 0,.slice none 0 0],.int .i64 180]) (by simp [results,Tryz.results17,go_sem,t0,t1,t2,t3,t4,t5,t6,t7]) rfl ?_
              unfold GivesD8
              rw [HD.out]
              exact ⟨_,_,_,_,_,_,rfl,⟨cols_none _ _,ints_none _ _,lists_none _ _,vals_none _ _,vals_none _ _,pairs_none _ _⟩,HZB.out⟩
end
end Go.Proofs.YtnajjhgbombboaaGreatDoor
