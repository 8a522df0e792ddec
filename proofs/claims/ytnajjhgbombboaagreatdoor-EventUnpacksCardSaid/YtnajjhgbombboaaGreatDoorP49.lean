/-
  Texts behind the statement: part 49.
-/
import Derived.Test.YtnajjhgbombboaaGreatDoorP19
import Derived.Test.YtnajjhgbombboaaGreatDoorP34
import Derived.Test.YtnajjhgbombboaaGreatDoorP47
import Derived.Test.YtnajjhgbombboaaGreatDoorP48
set_option linter.unusedVariables false
set_option linter.unusedSimpArgs false
namespace Go.Proofs.YtnajjhgbombboaaGreatDoor
section
open Go.RowKit Go.Shelf Go.Lib
attribute [local go_sem] Oper.semAt_some
theorem zmeet {P:Program} {c:Code} {Q Q':Exit→Act→World→Prop} {a:Act} {w:World} (h:c.wp P Q' a w) (k : ∀ e a' V,Q' e a' V→Q e a' V):c.wp P Q a w:=Code.wp_mono k h
theorem zinBlock {id:Nat} {Q:Exit→Act→World→Prop} {a:Act} {w:World} (h:Q .normal a w):Exit.inBlock id Q (.exit id) a w:=by
 unfold Exit.inBlock
 simp only [if_true]
 exact h
theorem zinBlockRet {id:Nat} {Q:Exit→Act→World→Prop} {a:Act} {w:World} (h:Q .ret a w):Exit.inBlock id Q .ret a w:=by
 unfold Exit.inBlock
 simpa using h
section
variable {w V V':World} {br:Nat} {v0 v1 v2 vr:Value} {bad:Bool}
theorem ESt.reader (h:ESt w br v0 v1 v2 vr bad V) (u:Value) (b:Bool):ESt w br v0 v1 v2 u b ((V.setCell ⟨br,0,none⟩ u).setCell ⟨br,1,none⟩ (.bool b)):=by
 obtain ⟨h1,h2,h3,h4,h5⟩:=h
 exact ⟨(h1.setCell (by dsimp only;omega) _).setCell (by dsimp only;omega) _,(h2.far (by dsimp only;omega) _).far (by dsimp only;omega) _,(h3.far (by dsimp only;omega) _).far (by dsimp only;omega) _,(h4.set_ 0 u).set_ 1 (.bool b),h5⟩
theorem ESt.reader0 (h:ESt w br v0 v1 v2 vr bad V) (u:Value):ESt w br v0 v1 v2 u bad (V.setCell ⟨br,0,none⟩ u):=by
 obtain ⟨h1,h2,h3,h4,h5⟩:=h
 exact ⟨h1.setCell (by dsimp only;omega) _,h2.far (by dsimp only;omega) _,h3.far (by dsimp only;omega) _,h4.set_ 0 u,h5⟩
end
theorem BsI.down {w V:World} {v:Value} {s:List UInt8} (h:BsI w.heap.size V v s) (hb:Bel w V):BsI w.heap.size w v s:=h.keep fun p hp=>(hb.cell hp).symm
set_option maxRecDepth 100000 in
set_option maxHeartbeats 16000000 in
theorem zelim {w:World} {br:Nat} {s:List UInt8} {R:Option (List Col×List Int×List (List Int))} {Ab:Option Addr} {cb n:Nat} {Q:Exit→Act→World→Prop}
  (h1 : ∀ (V:World) (z3 z7 z8 z9 z10 z11 z12 z13 z18 z19 z20 z21 z22 z23 z24 z25 z26 z27 z28 z29 z30 z31 z32 z33 z34 z35 z36 z37 z38 z39 z40 z41 z42 z43 z44 z45 z46 z47 z48 z49 z50 z51 z52 z53 z54 z55 z56 z57 z58 z59 z60 z61 z62 z63 z64 z65 z66 z67 z68 z69 z70 z71 z72 z73 z74 z75 z76 z77 z78:Value) (k:Nat) (L:List Col) (vr:Value) (r':List UInt8) (bad:Bool) (A:Option Addr) (c:Nat),((L.length=k∧k≤9∧r'.length≤s.length)∧Hid (∀ c ∈ L,c.name.size≤1000000)∧Hid (ESt w br (.slice A k c) (.slice none 0 0) (.slice none 0 0) vr bad V)∧Hid (BsI w.heap.size w vr r')∧Hid (V.ownsRow (br+1) 67 4 (.slice A k c) k (crows L))∧Hid (∀ c0 k0 u0,rightS c0 k0 u0=true→encSch c0 k0 u0=s→L=c0∧bad=false∧r'=(encList k0 ++ (numB u0.length ++ encLists u0))))→Q (.exit 0) { tmps:=#[.slice Ab s.length cb,undef,.pointer (some ⟨w.heap.size,0,none⟩),z3,.pointer (some ⟨w.heap.size+1,0,none⟩),.pointer (some ⟨br,0,none⟩),.int .i64 n,z7,z8,z9,z10,z11,z12,z13,undef,undef,undef,undef,z18,z19,z20,z21,z22,z23,z24,z25,z26,z27,z28,z29,z30,z31,z32,z33,z34,z35,z36,z37,z38,z39,z40,z41,z42,z43,z44,z45,z46,z47,z48,z49,z50,z51,z52,z53,z54,z55,z56,z57,z58,z59,z60,z61,z62,z63,z64,z65,z66,z67,z68,z69,z70,z71,z72,z73,z74,z75,z76,z77,z78,undef,undef,undef,undef,undef,undef,undef,undef,undef,undef,undef,undef,undef,undef,undef,undef,undef,undef,undef,undef,undef,undef,undef,undef,undef,undef,undef,undef,undef,undef,undef,undef,undef,undef,undef,undef,undef,undef,undef,undef,undef,undef,undef,undef,undef,undef,undef,undef,undef,undef,undef],defers:=[] } V)
  (h2 : ∀ (V:World) (z7 z8 z9 z10 z11 z12 z13 z18 z19 z20 z21 z22 z23 z24 z25 z26 z27 z28 z29 z30 z31 z32 z33 z34 z35 z36 z37 z38 z39 z40 z41 z42 z43 z44 z45 z46 z47 z48 z49 z50 z51 z52 z53 z54 z55 z56 z57 z58 z59 z60 z61 z62 z63 z64 z65 z66 z67 z68 z69 z70 z71 z72 z73 z74 z75 z76 z77 z78:Value),(R=none∧(V.cell? ⟨w.heap.size,0,none⟩=some (.slice none 0 0)∧V.cell? ⟨w.heap.size,1,none⟩=some (.slice none 0 0)∧V.cell? ⟨w.heap.size,2,none⟩=some (.slice none 0 0))∧Bel w V)→Q .ret { tmps:=#[.slice Ab s.length cb,undef,.pointer (some ⟨w.heap.size,0,none⟩),.int .i64 140,.pointer (some ⟨w.heap.size+1,0,none⟩),.pointer (some ⟨br,0,none⟩),.int .i64 n,z7,z8,z9,z10,z11,z12,z13,undef,undef,undef,undef,z18,z19,z20,z21,z22,z23,z24,z25,z26,z27,z28,z29,z30,z31,z32,z33,z34,z35,z36,z37,z38,z39,z40,z41,z42,z43,z44,z45,z46,z47,z48,z49,z50,z51,z52,z53,z54,z55,z56,z57,z58,z59,z60,z61,z62,z63,z64,z65,z66,z67,z68,z69,z70,z71,z72,z73,z74,z75,z76,z77,z78,undef,undef,undef,undef,undef,undef,undef,undef,undef,undef,undef,undef,undef,undef,undef,undef,undef,undef,undef,undef,undef,undef,undef,undef,undef,undef,undef,undef,undef,undef,undef,undef,undef,undef,undef,undef,undef,undef,undef,undef,undef,undef,undef,undef,undef,undef,undef,undef,undef,undef,undef],defers:=[] } V) :
  ∀ e a' V,(fun (e:Exit) (a':Act) (V:World) =>  (∃ (z3 z7 z8 z9 z10 z11 z12 z13 z18 z19 z20 z21 z22 z23 z24 z25 z26 z27 z28 z29 z30 z31 z32 z33 z34 z35 z36 z37 z38 z39 z40 z41 z42 z43 z44 z45 z46 z47 z48 z49 z50 z51 z52 z53 z54 z55 z56 z57 z58 z59 z60 z61 z62 z63 z64 z65 z66 z67 z68 z69 z70 z71 z72 z73 z74 z75 z76 z77 z78:Value) (k:Nat) (L:List Col) (vr:Value) (r':List UInt8) (bad:Bool) (A:Option Addr) (c:Nat),e = .exit 0∧a' = { tmps:=#[.slice Ab s.length cb,undef,.pointer (some ⟨w.heap.size,0,none⟩),z3,.pointer (some ⟨w.heap.size+1,0,none⟩),.pointer (some ⟨br,0,none⟩),.int .i64 n,z7,z8,z9,z10,z11,z12,z13,undef,undef,undef,undef,z18,z19,z20,z21,z22,z23,z24,z25,z26,z27,z28,z29,z30,z31,z32,z33,z34,z35,z36,z37,z38,z39,z40,z41,z42,z43,z44,z45,z46,z47,z48,z49,z50,z51,z52,z53,z54,z55,z56,z57,z58,z59,z60,z61,z62,z63,z64,z65,z66,z67,z68,z69,z70,z71,z72,z73,z74,z75,z76,z77,z78,undef,undef,undef,undef,undef,undef,undef,undef,undef,undef,undef,undef,undef,undef,undef,undef,undef,undef,undef,undef,undef,undef,undef,undef,undef,undef,undef,undef,undef,undef,undef,undef,undef,undef,undef,undef,undef,undef,undef,undef,undef,undef,undef,undef,undef,undef,undef,undef,undef,undef,undef],defers:=[] } ∧ L.length=k∧k≤9∧r'.length≤s.length∧Hid (∀ c ∈ L,c.name.size≤1000000)∧Hid (ESt w br (.slice A k c) (.slice none 0 0) (.slice none 0 0) vr bad V)∧Hid (BsI w.heap.size w vr r')∧Hid (V.ownsRow (br+1) 67 4 (.slice A k c) k (crows L))∧Hid (∀ c0 k0 u0,rightS c0 k0 u0=true→encSch c0 k0 u0=s→L=c0∧bad=false∧r'=(encList k0 ++ (numB u0.length ++ encLists u0)))) ∨ ∃ (z7 z8 z9 z10 z11 z12 z13 z18 z19 z20 z21 z22 z23 z24 z25 z26 z27 z28 z29 z30 z31 z32 z33 z34 z35 z36 z37 z38 z39 z40 z41 z42 z43 z44 z45 z46 z47 z48 z49 z50 z51 z52 z53 z54 z55 z56 z57 z58 z59 z60 z61 z62 z63 z64 z65 z66 z67 z68 z69 z70 z71 z72 z73 z74 z75 z76 z77 z78:Value),e = .ret∧a' = { tmps:=#[.slice Ab s.length cb,undef,.pointer (some ⟨w.heap.size,0,none⟩),.int .i64 140,.pointer (some ⟨w.heap.size+1,0,none⟩),.pointer (some ⟨br,0,none⟩),.int .i64 n,z7,z8,z9,z10,z11,z12,z13,undef,undef,undef,undef,z18,z19,z20,z21,z22,z23,z24,z25,z26,z27,z28,z29,z30,z31,z32,z33,z34,z35,z36,z37,z38,z39,z40,z41,z42,z43,z44,z45,z46,z47,z48,z49,z50,z51,z52,z53,z54,z55,z56,z57,z58,z59,z60,z61,z62,z63,z64,z65,z66,z67,z68,z69,z70,z71,z72,z73,z74,z75,z76,z77,z78,undef,undef,undef,undef,undef,undef,undef,undef,undef,undef,undef,undef,undef,undef,undef,undef,undef,undef,undef,undef,undef,undef,undef,undef,undef,undef,undef,undef,undef,undef,undef,undef,undef,undef,undef,undef,undef,undef,undef,undef,undef,undef,undef,undef,undef,undef,undef,undef,undef,undef,undef],defers:=[] } ∧ R=none∧(V.cell? ⟨w.heap.size,0,none⟩=some (.slice none 0 0)∧V.cell? ⟨w.heap.size,1,none⟩=some (.slice none 0 0)∧V.cell? ⟨w.heap.size,2,none⟩=some (.slice none 0 0))∧Bel w V) e a' V→Q e a' V:=by
 rintro e a' V (⟨z3,z7,z8,z9,z10,z11,z12,z13,z18,z19,z20,z21,z22,z23,z24,z25,z26,z27,z28,z29,z30,z31,z32,z33,z34,z35,z36,z37,z38,z39,z40,z41,z42,z43,z44,z45,z46,z47,z48,z49,z50,z51,z52,z53,z54,z55,z56,z57,z58,z59,z60,z61,z62,z63,z64,z65,z66,z67,z68,z69,z70,z71,z72,z73,z74,z75,z76,z77,z78,k,L,vr,r',bad,A,c,rfl,rfl,hL,hk,hr,h⟩ | ⟨z7,z8,z9,z10,z11,z12,z13,z18,z19,z20,z21,z22,z23,z24,z25,z26,z27,z28,z29,z30,z31,z32,z33,z34,z35,z36,z37,z38,z39,z40,z41,z42,z43,z44,z45,z46,z47,z48,z49,z50,z51,z52,z53,z54,z55,z56,z57,z58,z59,z60,z61,z62,z63,z64,z65,z66,z67,z68,z69,z70,z71,z72,z73,z74,z75,z76,z77,z78,rfl,rfl,h⟩)
 ·exact h1 V z3 z7 z8 z9 z10 z11 z12 z13 z18 z19 z20 z21 z22 z23 z24 z25 z26 z27 z28 z29 z30 z31 z32 z33 z34 z35 z36 z37 z38 z39 z40 z41 z42 z43 z44 z45 z46 z47 z48 z49 z50 z51 z52 z53 z54 z55 z56 z57 z58 z59 z60 z61 z62 z63 z64 z65 z66 z67 z68 z69 z70 z71 z72 z73 z74 z75 z76 z77 z78 k L vr r' bad A c ⟨⟨hL,hk,hr⟩,h⟩
 ·exact h2 V z7 z8 z9 z10 z11 z12 z13 z18 z19 z20 z21 z22 z23 z24 z25 z26 z27 z28 z29 z30 z31 z32 z33 z34 z35 z36 z37 z38 z39 z40 z41 z42 z43 z44 z45 z46 z47 z48 z49 z50 z51 z52 z53 z54 z55 z56 z57 z58 z59 z60 z61 z62 z63 z64 z65 z66 z67 z68 z69 z70 z71 z72 z73 z74 z75 z76 z77 z78 h
set_option maxRecDepth 100000 in
set_option maxHeartbeats 16000000 in
theorem r4DecodeSchema_any (vb:Value) (s:List UInt8) (hs:s.length≤1000000) (w:World) (hb:BsAt w vb s):Calls Tryz.prog 46 #[vb] w (GivesSch (decS s) w):=by
 obtain ⟨R,hR⟩ : ∃ R,R=decS s:=⟨_,rfl⟩
 rw [← hR]
 have HRS:Hid (∀ c0 k0 u0,R=some (c0,k0,u0)→rightS c0 k0 u0=true∧encSch c0 k0 u0=s):=fun c0 k0 u0 h=>decS_some (hR.symm.trans h)
 have HRE:Hid (∀ c0 k0 u0,rightS c0 k0 u0=true→encSch c0 k0 u0=s→R=some (c0,k0,u0)):=fun c0 k0 u0 h1 h2=>by rw [hR,← h2];exact decS_enc h1
 have HNO:Hid ((∀ c0 k0 u0,¬ R=some (c0,k0,u0))→R=none):=fun h=>by
  cases R with
  | none=>rfl
  | some q=>exact (h q.1 q.2.1 q.2.2 rfl).elim
 have HBS:=Lib.hid hb
 obtain ⟨Ab,cb,rfl,-⟩:=id hb
 obtain ⟨i0,hi0,hz0,hz1,hz2⟩:=info_parts zinfoC
 obtain ⟨j0,hj0,hy0,hy1,hy2⟩:=info_parts zinfoIs
 have hp4:(0:Nat)<4:=by omega
 have hp1:(0:Nat)<1:=by omega
 obtain ⟨W0,hW0⟩ : ∃ V,V=(w.alloc (.cells #[.slice none 0 0,.slice none 0 0,.slice none 0 0] 27)).alloc (.cells #[.slice none 0 0,.slice none 0 0,.slice none 0 0] 27):=⟨_,rfl⟩
 have hb0:Bel w W0:=by rw [hW0];exact ((Bel.refl w).alloc _).alloc _
 have k1:Blk W0 w.heap.size 27 #[.slice none 0 0,.slice none 0 0,.slice none 0 0]:=by rw [hW0];exact (Blk.new w _ _).alloc _
 have k2:Blk W0 (w.heap.size+1) 27 #[.slice none 0 0,.slice none 0 0,.slice none 0 0]:=by
  rw [hW0]
  have:=Blk.new (w.alloc (.cells #[.slice none 0 0,.slice none 0 0,.slice none 0 0] 27)) 27 #[.slice none 0 0,.slice none 0 0,.slice none 0 0]
  simpa using this
 have HN0:=Lib.hid (r4number_any (.slice Ab s.length cb) s false hs w.heap.size W0 hb0.size (hb.low.up hb0))
 have HB0:=Lib.hid hb0
 have K1:=Lib.hid k1
 have K2:=Lib.hid k2
 clear hR hb k1 k2 hb0
 go_enter Tryz.func46,Tryz.ntmps46
 go_wp2_with fail
 rw [← hW0]
 clear hW0
 refine HN0.out.mono ?_
 rintro e w1 ⟨v1,r1,bad1,n,rfl,hv1,hr1,hn1,hb1,htr⟩
 obtain ⟨A1,cc1,hv1e,-⟩:=id hv1
 subst hv1e
 have hnI:(n:Int)≤1000:=by omega
 have hbw1:=HB0.out.then_ hb1
 have J1:=(K1.out.grown (hb1.grown none) (fun e=>by cases e)).alloc (.cells #[.slice A1 r1.length cc1,.bool bad1] 134)
 have J2:=(K2.out.grown (hb1.grown none) (fun e=>by cases e)).alloc (.cells #[.slice A1 r1.length cc1,.bool bad1] 134)
 obtain ⟨br,hbr⟩ : ∃ b,b=w1.heap.size:=⟨_,rfl⟩
 have hbr2:w.heap.size+2≤br:=by rw [hbr];exact (K2.out.grown (hb1.grown none) (fun e=>by cases e)).lt
 have E1:Hid (ESt w br (.slice none 0 0) (.slice none 0 0) (.slice none 0 0) (.slice A1 r1.length cc1) bad1 (w1.alloc (.cells #[.slice A1 r1.length cc1,.bool bad1] 134))):=⟨hbw1.alloc _,J1,J2,by rw [hbr];exact Blk.new _ _ _,hbr2⟩
 have HV1:=Lib.hid (hv1.down hbw1)
 have HT1:Hid (∀ c0 k0 u0,rightS c0 k0 u0=true→encSch c0 k0 u0=s→n=c0.length∧bad1=false∧r1=encCols c0 ++ (encList k0 ++ (numB u0.length ++ encLists u0))):=fun c0 k0 u0 h1 h2=>by
  have:=right_small h1
  have h3:=htr c0.length (encCols c0 ++ (encList k0 ++ (numB u0.length ++ encLists u0))) rfl (by omega) (by rw [← h2];rfl)
  exact ⟨h3.1,h3.2.2,h3.2.1⟩
 clear hv1 hb1 htr hbw1 J1 J2 HN0 K1 K2 HB0
 go_wp2_with fail
 rw [← hbr]
 clear hbr
 refine zmeet (Q':=fun e a' V=>(∃ (z3 z7 z8 z9 z10 z11 z12 z13 z18 z19 z20 z21 z22 z23 z24 z25 z26 z27 z28 z29 z30 z31 z32 z33 z34 z35 z36 z37 z38 z39 z40 z41 z42 z43 z44 z45 z46 z47 z48 z49 z50 z51 z52 z53 z54 z55 z56 z57 z58 z59 z60 z61 z62 z63 z64 z65 z66 z67 z68 z69 z70 z71 z72 z73 z74 z75 z76 z77 z78:Value) (k:Nat) (L:List Col) (vr:Value) (r':List UInt8) (bad:Bool) (A:Option Addr) (c:Nat),e = .exit 0∧a' = { tmps:=#[.slice Ab s.length cb,undef,.pointer (some ⟨w.heap.size,0,none⟩),z3,.pointer (some ⟨w.heap.size+1,0,none⟩),.pointer (some ⟨br,0,none⟩),.int .i64 n,z7,z8,z9,z10,z11,z12,z13,undef,undef,undef,undef,z18,z19,z20,z21,z22,z23,z24,z25,z26,z27,z28,z29,z30,z31,z32,z33,z34,z35,z36,z37,z38,z39,z40,z41,z42,z43,z44,z45,z46,z47,z48,z49,z50,z51,z52,z53,z54,z55,z56,z57,z58,z59,z60,z61,z62,z63,z64,z65,z66,z67,z68,z69,z70,z71,z72,z73,z74,z75,z76,z77,z78,undef,undef,undef,undef,undef,undef,undef,undef,undef,undef,undef,undef,undef,undef,undef,undef,undef,undef,undef,undef,undef,undef,undef,undef,undef,undef,undef,undef,undef,undef,undef,undef,undef,undef,undef,undef,undef,undef,undef,undef,undef,undef,undef,undef,undef,undef,undef,undef,undef,undef,undef],defers:=[] } ∧ L.length=k∧k≤9∧r'.length≤s.length∧Hid (∀ c ∈ L,c.name.size≤1000000)∧Hid (ESt w br (.slice A k c) (.slice none 0 0) (.slice none 0 0) vr bad V)∧Hid (BsI w.heap.size w vr r')∧Hid (V.ownsRow (br+1) 67 4 (.slice A k c) k (crows L))∧Hid (∀ c0 k0 u0,rightS c0 k0 u0=true→encSch c0 k0 u0=s→L=c0∧bad=false∧r'=(encList k0 ++ (numB u0.length ++ encLists u0)))) ∨ ∃ (z7 z8 z9 z10 z11 z12 z13 z18 z19 z20 z21 z22 z23 z24 z25 z26 z27 z28 z29 z30 z31 z32 z33 z34 z35 z36 z37 z38 z39 z40 z41 z42 z43 z44 z45 z46 z47 z48 z49 z50 z51 z52 z53 z54 z55 z56 z57 z58 z59 z60 z61 z62 z63 z64 z65 z66 z67 z68 z69 z70 z71 z72 z73 z74 z75 z76 z77 z78:Value),e = .ret∧a' = { tmps:=#[.slice Ab s.length cb,undef,.pointer (some ⟨w.heap.size,0,none⟩),.int .i64 140,.pointer (some ⟨w.heap.size+1,0,none⟩),.pointer (some ⟨br,0,none⟩),.int .i64 n,z7,z8,z9,z10,z11,z12,z13,undef,undef,undef,undef,z18,z19,z20,z21,z22,z23,z24,z25,z26,z27,z28,z29,z30,z31,z32,z33,z34,z35,z36,z37,z38,z39,z40,z41,z42,z43,z44,z45,z46,z47,z48,z49,z50,z51,z52,z53,z54,z55,z56,z57,z58,z59,z60,z61,z62,z63,z64,z65,z66,z67,z68,z69,z70,z71,z72,z73,z74,z75,z76,z77,z78,undef,undef,undef,undef,undef,undef,undef,undef,undef,undef,undef,undef,undef,undef,undef,undef,undef,undef,undef,undef,undef,undef,undef,undef,undef,undef,undef,undef,undef,undef,undef,undef,undef,undef,undef,undef,undef,undef,undef,undef,undef,undef,undef,undef,undef,undef,undef,undef,undef,undef,undef],defers:=[] } ∧ R=none∧(V.cell? ⟨w.heap.size,0,none⟩=some (.slice none 0 0)∧V.cell? ⟨w.heap.size,1,none⟩=some (.slice none 0 0)∧V.cell? ⟨w.heap.size,2,none⟩=some (.slice none 0 0))∧Bel w V) ?_ (zelim ?_ ?_)
 ·go_loopw [7] (fun i wr=>∃ (k:Nat) (L:List Col) (vr:Value) (r':List UInt8) (bad:Bool) (A:Option Addr) (c:Nat),k≤n∧k≤9∧i = .int .i64 k∧L.length=k∧r'.length≤s.length∧Hid (∀ c ∈ L,c.name.size≤1000000)∧Hid (ESt w br (.slice A k c) (.slice none 0 0) (.slice none 0 0) vr bad wr)∧Hid (BsI w.heap.size w vr r')∧Hid (wr.ownsRow (br+1) 67 4 (.slice A k c) k (crows L))∧Hid (∀ c0 k0 u0,rightS c0 k0 u0=true→encSch c0 k0 u0=s→n=c0.length∧bad=false∧L=c0.take k∧r'=encCols (c0.drop k) ++ (encList k0 ++ (numB u0.length ++ encLists u0)))) (fun i _=>9 - (intOf i).toNat)
  case atStart=>exact ⟨0,[],_,r1,bad1,none,0,Nat.zero_le _,Nat.zero_le _,rfl,rfl,hr1,fun c h=>by simp at h,E1.out,HV1.out,World.ownsRow_nil _ _ _ _,fun c0 k0 u0 h1 h2=>⟨(HT1.out c0 k0 u0 h1 h2).1,(HT1.out c0 k0 u0 h1 h2).2.1,rfl,(HT1.out c0 k0 u0 h1 h2).2.2⟩⟩
  case round =>
   obtain ⟨k,L,vr,r',bad,A,c,hkn,hk9,rfl,hL,hr',HNM,HE,HV,HO,HT⟩:=hrel
   obtain ⟨Ar,cr,hvre,-⟩:=id HV.out
   subst hvre
   obtain ⟨⟨s0,s1,s2⟩,⟨f0,f1,f2⟩,⟨t0,t1⟩,g0,g1⟩:=HE.out.cells
   obtain ⟨⟨q0,q1,q2⟩,o0,o1,o2⟩:=HE.out.res
   by_cases hgo:k<n∧k<9∧bad=false
   ·obtain ⟨hlt,hlt9,rfl⟩:=hgo
    have hkI:(k:Int)<n:=by omega
    have hkJ:(k:Int)<9:=by omega
    have HRT:=Lib.hid (r2ReadText_any _ r' (by omega) wr ((HV.out.up HE.out.1).at_ HE.out.1.size))
    cases hx0:rdText r' with
    | none =>
      rw [hx0] at HRT
      unfold textV at HRT
      obtain rfl:R=none:=HNO.out fun c0 k0 u0 h=>by
       obtain ⟨h1,h2⟩:=HRS.out c0 k0 u0 h
       obtain ⟨a1,a2,a3,a4⟩:=HT.out c0 k0 u0 h1 h2
       have hk0:k<c0.length:=by omega
       have hc:=(right_small h1).1 c0[k] (List.getElem_mem hk0)
       rw [List.drop_eq_getElem_cons hk0] at a4
       have hl:(c0[k]).name.data.toList.length=(c0[k]).name.size:=rfl
       have a5:r'=textB (c0[k]).name.data.toList ++ (numB (c0[k]).t.toNat ++ (numB (c0[k]).z.toNat ++ (numB (bNat (c0[k]).null) ++ (encCols (c0.drop (k+1)) ++ (encList k0 ++ (numB u0.length ++ encLists u0)))))):=by
        rw [a4]
        show encCol c0[k] ++ encCols _ ++ _=_
        unfold encCol
        simp only [List.append_assoc]
       have a6:=rdText_enc (c0[k]).name.data.toList (by rw [hl];omega) (numB (c0[k]).t.toNat ++ (numB (c0[k]).z.toNat ++ (numB (bNat (c0[k]).null) ++ (encCols (c0.drop (k+1)) ++ (encList k0 ++ (numB u0.length ++ encLists u0))))))
       rw [← a5,hx0] at a6
       cases a6
      have HFIN:Hid (Bel w (((wr.setCell ⟨w.heap.size,0,none⟩ (.slice none 0 0)).setCell ⟨w.heap.size,1,none⟩ (.slice none 0 0)).setCell ⟨w.heap.size,2,none⟩ (.slice none 0 0))):=((HE.out.1.setCell (Nat.le_refl _) _).setCell (Nat.le_refl _) _).setCell (Nat.le_refl _) _
      clear hx0 HT HO HV HE HNM
      go_wp2_with fail
      refine HRT.out.mono ?_
      rintro e w' ⟨rfl,rfl⟩
      go_wp2
      exact .inr ⟨_,_,_,_,_,_,_,_,_,_,_,_,_,_,_,_,_,_,_,_,_,_,_,_,_,_,_,_,_,_,_,_,_,_,_,_,_,_,_,_,_,_,_,_,_,_,_,_,_,_,_,_,_,_,_,_,_,_,_,_,_,_,_,_,_,_,_,_,by first | rfl | trivial,by first | rfl | trivial,by first | rfl | trivial,⟨by go_simp,by go_simp,by go_simp⟩,HFIN.out⟩
    | some qx =>
      obtain ⟨x,m⟩:=qx
      rw [hx0] at HRT
      unfold textV strV at HRT
      obtain ⟨hm1,hm2,-,hm4⟩:=rdText_back hx0
      have hmI:(m:Int)≤r'.length:=by omega
      obtain ⟨Av,cv,hve,hn3,hx3,hrd3⟩:=id HV.out
      injection hve with hve1 hve2 hve3
      subst hve1 hve3
      obtain ⟨ad,rfl,-⟩:=hrd3.2 (by omega)
      have hbI:(r'.length:Int)≤cr:=by omega
      have hbJ:(cr:Int)≤9223372036854775807:=by unfold maxLen at hx3;omega
      have hdl:(r'.drop m).length=r'.length - m:=List.length_drop
      have HTX:Hid (∀ c0 k0 u0,rightS c0 k0 u0=true→encSch c0 k0 u0=s → ∃ hk0:k<c0.length,x=(c0[k]).name.data.toList∧r'.drop m=numB (c0[k]).t.toNat ++ (numB (c0[k]).z.toNat ++ (numB (bNat (c0[k]).null) ++ (encCols (c0.drop (k+1)) ++ (encList k0 ++ (numB u0.length ++ encLists u0)))))∧n=c0.length∧L=c0.take k∧(1≤(c0[k]).t∧(c0[k]).t≤4∧0≤(c0[k]).z∧(c0[k]).z≤200)):=fun c0 k0 u0 h1 h2=>by
       obtain ⟨a1,a2,a3,a4⟩:=HT.out c0 k0 u0 h1 h2
       have hk0:k<c0.length:=by omega
       have hc:=(right_small h1).1 c0[k] (List.getElem_mem hk0)
       rw [List.drop_eq_getElem_cons hk0] at a4
       have hl:(c0[k]).name.data.toList.length=(c0[k]).name.size:=rfl
       have a5:r'=textB (c0[k]).name.data.toList ++ (numB (c0[k]).t.toNat ++ (numB (c0[k]).z.toNat ++ (numB (bNat (c0[k]).null) ++ (encCols (c0.drop (k+1)) ++ (encList k0 ++ (numB u0.length ++ encLists u0)))))):=by
        rw [a4]
        show encCol c0[k] ++ encCols _ ++ _=_
        unfold encCol
        simp only [List.append_assoc]
       have a6:=rdText_enc (c0[k]).name.data.toList (by rw [hl];omega) (numB (c0[k]).t.toNat ++ (numB (c0[k]).z.toNat ++ (numB (bNat (c0[k]).null) ++ (encCols (c0.drop (k+1)) ++ (encList k0 ++ (numB u0.length ++ encLists u0))))))
       rw [← a5,hx0] at a6
       injection a6 with a6
       injection a6 with a6 a7
       refine ⟨hk0,a6,?_,a1,a3,hc.1,hc.2.1,hc.2.2.1,hc.2.2.2.1⟩
       rw [a5,a7,List.drop_left]
      clear hx0 HT
      by_cases hmc:cr=m
      ·obtain rfl:m=r'.length:=by omega
       subst hmc
       have HV2:Hid (BsI w.heap.size w (.slice (some ad) 0 0) (r'.drop r'.length)):=by rw [List.drop_length];exact ⟨some ad,0,rfl,Nat.le_refl _,Nat.zero_le _,by simp,fun h=>by simp at h⟩
       clear hrd3
       have E2:=Lib.hid (HE.out.reader0 (.slice (some ad) 0 0))
       have O2:=Lib.hid (own_set4 HO.out (p:=⟨br,0,none⟩) (by dsimp only;omega) (.slice (some ad) 0 0))
       have HN3:=Lib.hid (r4number_any (.slice (some ad) 0 0) (r'.drop r'.length) false (by rw [hdl];omega) w.heap.size (wr.setCell ⟨br,0,none⟩ (.slice (some ad) 0 0)) E2.out.1.size (HV2.out.up E2.out.1))
       have hdle:(r'.drop r'.length).length≤s.length:=by rw [hdl];omega
       obtain ⟨⟨y0,y1,y2⟩,-,⟨m0,m1⟩,-⟩:=E2.out.cells
       clear HE HV HO
       go_wp2_with fail
       refine HRT.out.mono ?_
       rintro e w' ⟨rfl,rfl⟩
       go_wp2_with fail
       refine HN3.out.mono ?_
       rintro e w3 ⟨v3,r3,b3,n3,rfl,hv3,hr3,hn3',hb3,htr3⟩
       obtain ⟨A3,cc3,hv3e,-⟩:=id hv3
       subst hv3e
       clear y0 y1 y2 m0 m1 s0 s1 s2 f0 f1 f2 t0 t1 g0 g1 q0 q1 q2 o0 o1 o2
       have E3:=E2.out.bel hb3
       have E3x:=Lib.hid (E3.reader (.slice A3 r3.length cc3) b3)
       have O3x:=Lib.hid (own_set4 (own_set4 (ownsRow_bel O2.out hb3) (p:=⟨br,0,none⟩) (by dsimp only;omega) (.slice A3 r3.length cc3)) (p:=⟨br,1,none⟩) (by dsimp only;omega) (.bool b3))
       have HV3:=Lib.hid (hv3.down E3.1)
       have HT3:=Lib.hid htr3
       obtain ⟨-,-,⟨m0,m1⟩,l0,l1⟩:=E3.cells
       have HN4:=Lib.hid (r4number_any (.slice A3 r3.length cc3) r3 b3 (by omega) w.heap.size (((w3.setCell ⟨br,0,none⟩ (.slice A3 r3.length cc3)).setCell ⟨br,1,none⟩ (.bool b3))) E3x.out.1.size (HV3.out.up E3x.out.1))
       obtain ⟨-,-,⟨n0,n1⟩,-⟩:=E3x.out.cells
       clear E3 hb3 hv3 htr3
       go_wp2_with fail
       refine HN4.out.mono ?_
       rintro e w4 ⟨v4,r4,b4,n4,rfl,hv4,hr4,hn4',hb4,htr4⟩
       obtain ⟨A4,cc4,hv4e,-⟩:=id hv4
       subst hv4e
       clear m0 m1 l0 l1 n0 n1
       have E4:=E3x.out.bel hb4
       have E4x:=Lib.hid (E4.reader (.slice A4 r4.length cc4) b4)
       have O4x:=Lib.hid (own_set4 (own_set4 (ownsRow_bel O3x.out hb4) (p:=⟨br,0,none⟩) (by dsimp only;omega) (.slice A4 r4.length cc4)) (p:=⟨br,1,none⟩) (by dsimp only;omega) (.bool b4))
       have HV4:=Lib.hid (hv4.down E4.1)
       have HT4:=Lib.hid htr4
       obtain ⟨-,-,⟨m0,m1⟩,l0,l1⟩:=E4.cells
       have HN5:=Lib.hid (r4number_any (.slice A4 r4.length cc4) r4 b4 (by omega) w.heap.size (((w4.setCell ⟨br,0,none⟩ (.slice A4 r4.length cc4)).setCell ⟨br,1,none⟩ (.bool b4))) E4x.out.1.size (HV4.out.up E4x.out.1))
       obtain ⟨-,-,⟨n0,n1⟩,-⟩:=E4x.out.cells
       clear E4 hb4 hv4 htr4
       go_wp2_with fail
       refine HN5.out.mono ?_
       rintro e w5 ⟨v5,r5,b5,n5,rfl,hv5,hr5,hn5',hb5,htr5⟩
       obtain ⟨A5,cc5,hv5e,-⟩:=id hv5
       subst hv5e
       clear m0 m1 l0 l1 n0 n1
       have E5:=E4x.out.bel hb5
       have E5x:=Lib.hid (E5.reader (.slice A5 r5.length cc5) b5)
       have O5x:=Lib.hid (own_set4 (own_set4 (ownsRow_bel O4x.out hb5) (p:=⟨br,0,none⟩) (by dsimp only;omega) (.slice A5 r5.length cc5)) (p:=⟨br,1,none⟩) (by dsimp only;omega) (.bool b5))
       have HV5:=Lib.hid (hv5.down E5.1)
       have HT5:=Lib.hid htr5
       obtain ⟨-,-,⟨m0,m1⟩,l0,l1⟩:=E5.cells
       obtain ⟨B,hB⟩ : ∃ B,B=decide (n5=1):=⟨_,rfl⟩
       have hb1:((n5:Int) == 1)=B:=by
        rw [hB]
        by_cases h:n5=1
        ·subst h;rfl
        ·rw [decide_eq_false h,beq_eq_false_iff_ne];omega
       have hb2:(n5 == 1)=B:=by rw [hB];rfl
       have hb3':decide ((n5:Int)=1)=B:=by rw [hB];exact decide_eq_decide.2 (by omega)
       have HTK:Hid (∀ c0 k0 u0,rightS c0 k0 u0=true→encSch c0 k0 u0=s→n=c0.length∧b5=false∧L ++ [⟨⟨x.toArray⟩,(n3:Int),(n4:Int),B⟩]=c0.take (k+1)∧r5=encCols (c0.drop (k+1)) ++ (encList k0 ++ (numB u0.length ++ encLists u0))):=fun c0 k0 u0 h1 h2=>by
        obtain ⟨hk0,a1,a2,a3,a4,a5,a6,a7,a8⟩:=HTX.out c0 k0 u0 h1 h2
        obtain ⟨p1,p2,p3⟩:=HT3.out _ _ (by first | rfl | trivial) (by omega) a2
        obtain ⟨p4,p5,p6⟩:=HT4.out _ _ p3 (by omega) p2
        obtain ⟨p7,p8,p9⟩:=HT5.out _ _ p6 (by unfold bNat;split <;> omega) p5
        refine ⟨a3,p9,?_,p8⟩
        rw [List.take_add_one,List.getElem?_eq_getElem hk0,a4]
        show c0.take k ++ [_]=c0.take k ++ [c0[k]]
        have hcc:(⟨⟨x.toArray⟩,(n3:Int),(n4:Int),B⟩:Col)=c0[k]:=by
         rw [hB,p7,a1,p1,p4,Int.toNat_of_nonneg (by omega),Int.toNat_of_nonneg a7]
         generalize c0[k]=cc
         obtain ⟨nm,tt,zz,nl⟩:=cc
         cases nl <;> simp [bNat]
        rw [hcc]
       clear hB
       have hal:Bel ((w5.setCell ⟨br,0,none⟩ (.slice A5 r5.length cc5)).setCell ⟨br,1,none⟩ (.bool b5)) (((w5.setCell ⟨br,0,none⟩ (.slice A5 r5.length cc5)).setCell ⟨br,1,none⟩ (.bool b5)).alloc (.cells #[.string ⟨x.toArray⟩,.int .i64 (n3:Int),.int .i64 (n4:Int),.bool B] 67)):=(Bel.refl _).alloc _
       have E6:=Lib.hid (E5x.out.bel hal)
       have O6:=Lib.hid (ownsRow_bel O5x.out hal)
       have HX:Hid (Reads (((w5.setCell ⟨br,0,none⟩ (.slice A5 r5.length cc5)).setCell ⟨br,1,none⟩ (.bool b5)).alloc (.cells #[.string ⟨x.toArray⟩,.int .i64 (n3:Int),.int .i64 (n4:Int),.bool B] 67)) (w5.heap.size+1) 4 (some ⟨w5.heap.size,0,none⟩) 1 [.string ⟨x.toArray⟩,.int .i64 (n3:Int),.int .i64 (n4:Int),.bool B]):=by
        have:=reads4 ((w5.setCell ⟨br,0,none⟩ (.slice A5 r5.length cc5)).setCell ⟨br,1,none⟩ (.bool b5)) 67 (.string ⟨x.toArray⟩) (.int .i64 (n3:Int)) (.int .i64 (n4:Int)) (.bool B)
        show Reads _ _ _ _ _ _
        rw [show ((w5.setCell ⟨br,0,none⟩ (.slice A5 r5.length cc5)).setCell ⟨br,1,none⟩ (.bool b5)).heap.size=w5.heap.size by simp] at this
        exact this
       have hon : ∀ u ∈ ([.string ⟨x.toArray⟩,.int .i64 (n3:Int),.int .i64 (n4:Int),.bool B]:List Value),u.oneCell'=true:=fun u hu=>by
        simp at hu
        rcases hu with rfl | rfl | rfl | rfl <;> rfl
       have h63:k+1≤maxLen:=by unfold maxLen;omega
       have hby:(k+1) * 40≤140737488355328:=by omega
       have HBA:Hid (br+1≤(((w5.setCell ⟨br,0,none⟩ (.slice A5 r5.length cc5)).setCell ⟨br,1,none⟩ (.bool b5)).alloc (.cells #[.string ⟨x.toArray⟩,.int .i64 (n3:Int),.int .i64 (n4:Int),.bool B] 67)).heap.size):=E6.out.lt
       have HNM2:Hid (∀ cc ∈ L ++ [⟨⟨x.toArray⟩,(n3:Int),(n4:Int),B⟩],cc.name.size≤1000000):=fun cc hcc=>by
        rcases List.mem_append.1 hcc with h | h
        ·exact HNM.out cc h
        ·rw [List.mem_singleton] at h
         subst h
         show x.toArray.size≤1000000
         rw [List.size_toArray]
         omega
       have HVA:Hid (crows (L ++ [⟨⟨x.toArray⟩,(n3:Int),(n4:Int),B⟩])=crows L ++ [.string ⟨x.toArray⟩,.int .i64 (n3:Int),.int .i64 (n4:Int),.bool B]):=crows_append _ _
       obtain ⟨⟨y0,y1,y2⟩,-⟩:=E5x.out.cells
       clear hal E5 hb5 hv5 htr5
       go_wp2_with (at_builtin;refine wpList_append_any _ rfl (.tmp 69) (.tmp 76) _ rfl (br+1) 67 i0 _ 4 40 Tryz.underlying23 hi0 hz0 hz1 hz2 rfl hp4 (.slice A k c) k (crows L) (by rfl) O6.out _ (some ⟨w5.heap.size,0,none⟩) 1 1 [.string ⟨x.toArray⟩,.int .i64 (n3:Int),.int .i64 (n4:Int),.bool B] (by rfl) HX.out hon h63 hby HBA.out ?_;intro v9 w9 hown9 hg9 hat9;obtain ⟨A9,c9,rfl⟩:=row_any hown9;have E9:=Lib.hid (E6.out.grown hg9 (fun j e=>own_ge2 O6.out j e));have O9:=Lib.hid hown9;rw [← HVA.out] at O9;obtain ⟨⟨d0,d1,d2⟩,⟨h0,h1,h2⟩,-⟩:=E9.out.cells;clear hown9 hg9 hat9)
       have E10:=Lib.hid (E9.out.set0 (.slice A9 (k+1) c9))
       have O10:=Lib.hid (own_set4 O9.out (p:=⟨w.heap.size+1,0,none⟩) (by dsimp only;omega) (.slice A9 (k+1) c9))
       go_roundw
       case rel=>exact ⟨k+1,L ++ [(⟨⟨x.toArray⟩,(n3:Int),(n4:Int),B⟩:Col)],_,r5,b5,A9,c9,by omega,by omega,by go_num,by rw [List.length_append,hL];rfl,by omega,HNM2.out,E10.out,HV5.out,O10.out,HTK.out⟩
       case measure=>simp [intOf];omega
      ·have hcut:=hrd3.cut (k:=m) hm1 hn3
       rw [Nat.mul_one,← List.map_drop,if_neg hmc,← hdl] at hcut
       have hI4:((r'.length:Int) - m).toNat=r'.length - m:=by omega
       have hI5:((cr:Int) - m).toNat=cr - m:=by omega
       have HV2:Hid (BsI w.heap.size w (.slice (some (ad.add m)) (r'.length - m) (cr - m)) (r'.drop m)):=by
        show BsI _ _ _ _
        rw [← hdl]
        exact ⟨_,_,rfl,by omega,by omega,hcut⟩
       clear hrd3 hcut
       have E2:=Lib.hid (HE.out.reader0 (.slice (some (ad.add m)) (r'.length - m) (cr - m)))
       have O2:=Lib.hid (own_set4 HO.out (p:=⟨br,0,none⟩) (by dsimp only;omega) (.slice (some (ad.add m)) (r'.length - m) (cr - m)))
       have HN3:=Lib.hid (r4number_any (.slice (some (ad.add m)) (r'.length - m) (cr - m)) (r'.drop m) false (by rw [hdl];omega) w.heap.size (wr.setCell ⟨br,0,none⟩ (.slice (some (ad.add m)) (r'.length - m) (cr - m))) E2.out.1.size (HV2.out.up E2.out.1))
       have hdle:(r'.drop m).length≤s.length:=by rw [hdl];omega
       obtain ⟨⟨y0,y1,y2⟩,-,⟨m0,m1⟩,-⟩:=E2.out.cells
       clear HE HV HO
       go_wp2_with fail
       refine HRT.out.mono ?_
       rintro e w' ⟨rfl,rfl⟩
       go_wp2_with fail
       refine HN3.out.mono ?_
       rintro e w3 ⟨v3,r3,b3,n3,rfl,hv3,hr3,hn3',hb3,htr3⟩
       obtain ⟨A3,cc3,hv3e,-⟩:=id hv3
       subst hv3e
       clear y0 y1 y2 m0 m1 s0 s1 s2 f0 f1 f2 t0 t1 g0 g1 q0 q1 q2 o0 o1 o2
       have E3:=E2.out.bel hb3
       have E3x:=Lib.hid (E3.reader (.slice A3 r3.length cc3) b3)
       have O3x:=Lib.hid (own_set4 (own_set4 (ownsRow_bel O2.out hb3) (p:=⟨br,0,none⟩) (by dsimp only;omega) (.slice A3 r3.length cc3)) (p:=⟨br,1,none⟩) (by dsimp only;omega) (.bool b3))
       have HV3:=Lib.hid (hv3.down E3.1)
       have HT3:=Lib.hid htr3
       obtain ⟨-,-,⟨m0,m1⟩,l0,l1⟩:=E3.cells
       have HN4:=Lib.hid (r4number_any (.slice A3 r3.length cc3) r3 b3 (by omega) w.heap.size (((w3.setCell ⟨br,0,none⟩ (.slice A3 r3.length cc3)).setCell ⟨br,1,none⟩ (.bool b3))) E3x.out.1.size (HV3.out.up E3x.out.1))
       obtain ⟨-,-,⟨n0,n1⟩,-⟩:=E3x.out.cells
       clear E3 hb3 hv3 htr3
       go_wp2_with fail
       refine HN4.out.mono ?_
       rintro e w4 ⟨v4,r4,b4,n4,rfl,hv4,hr4,hn4',hb4,htr4⟩
       obtain ⟨A4,cc4,hv4e,-⟩:=id hv4
       subst hv4e
       clear m0 m1 l0 l1 n0 n1
       have E4:=E3x.out.bel hb4
       have E4x:=Lib.hid (E4.reader (.slice A4 r4.length cc4) b4)
       have O4x:=Lib.hid (own_set4 (own_set4 (ownsRow_bel O3x.out hb4) (p:=⟨br,0,none⟩) (by dsimp only;omega) (.slice A4 r4.length cc4)) (p:=⟨br,1,none⟩) (by dsimp only;omega) (.bool b4))
       have HV4:=Lib.hid (hv4.down E4.1)
       have HT4:=Lib.hid htr4
       obtain ⟨-,-,⟨m0,m1⟩,l0,l1⟩:=E4.cells
       have HN5:=Lib.hid (r4number_any (.slice A4 r4.length cc4) r4 b4 (by omega) w.heap.size (((w4.setCell ⟨br,0,none⟩ (.slice A4 r4.length cc4)).setCell ⟨br,1,none⟩ (.bool b4))) E4x.out.1.size (HV4.out.up E4x.out.1))
       obtain ⟨-,-,⟨n0,n1⟩,-⟩:=E4x.out.cells
       clear E4 hb4 hv4 htr4
       go_wp2_with fail
       refine HN5.out.mono ?_
       rintro e w5 ⟨v5,r5,b5,n5,rfl,hv5,hr5,hn5',hb5,htr5⟩
       obtain ⟨A5,cc5,hv5e,-⟩:=id hv5
       subst hv5e
       clear m0 m1 l0 l1 n0 n1
       have E5:=E4x.out.bel hb5
       have E5x:=Lib.hid (E5.reader (.slice A5 r5.length cc5) b5)
       have O5x:=Lib.hid (own_set4 (own_set4 (ownsRow_bel O4x.out hb5) (p:=⟨br,0,none⟩) (by dsimp only;omega) (.slice A5 r5.length cc5)) (p:=⟨br,1,none⟩) (by dsimp only;omega) (.bool b5))
       have HV5:=Lib.hid (hv5.down E5.1)
       have HT5:=Lib.hid htr5
       obtain ⟨-,-,⟨m0,m1⟩,l0,l1⟩:=E5.cells
       obtain ⟨B,hB⟩ : ∃ B,B=decide (n5=1):=⟨_,rfl⟩
       have hb1:((n5:Int) == 1)=B:=by
        rw [hB]
        by_cases h:n5=1
        ·subst h;rfl
        ·rw [decide_eq_false h,beq_eq_false_iff_ne];omega
       have hb2:(n5 == 1)=B:=by rw [hB];rfl
       have hb3':decide ((n5:Int)=1)=B:=by rw [hB];exact decide_eq_decide.2 (by omega)
       have HTK:Hid (∀ c0 k0 u0,rightS c0 k0 u0=true→encSch c0 k0 u0=s→n=c0.length∧b5=false∧L ++ [⟨⟨x.toArray⟩,(n3:Int),(n4:Int),B⟩]=c0.take (k+1)∧r5=encCols (c0.drop (k+1)) ++ (encList k0 ++ (numB u0.length ++ encLists u0))):=fun c0 k0 u0 h1 h2=>by
        obtain ⟨hk0,a1,a2,a3,a4,a5,a6,a7,a8⟩:=HTX.out c0 k0 u0 h1 h2
        obtain ⟨p1,p2,p3⟩:=HT3.out _ _ (by first | rfl | trivial) (by omega) a2
        obtain ⟨p4,p5,p6⟩:=HT4.out _ _ p3 (by omega) p2
        obtain ⟨p7,p8,p9⟩:=HT5.out _ _ p6 (by unfold bNat;split <;> omega) p5
        refine ⟨a3,p9,?_,p8⟩
        rw [List.take_add_one,List.getElem?_eq_getElem hk0,a4]
        show c0.take k ++ [_]=c0.take k ++ [c0[k]]
        have hcc:(⟨⟨x.toArray⟩,(n3:Int),(n4:Int),B⟩:Col)=c0[k]:=by
         rw [hB,p7,a1,p1,p4,Int.toNat_of_nonneg (by omega),Int.toNat_of_nonneg a7]
         generalize c0[k]=cc
         obtain ⟨nm,tt,zz,nl⟩:=cc
         cases nl <;> simp [bNat]
        rw [hcc]
       clear hB
       have hal:Bel ((w5.setCell ⟨br,0,none⟩ (.slice A5 r5.length cc5)).setCell ⟨br,1,none⟩ (.bool b5)) (((w5.setCell ⟨br,0,none⟩ (.slice A5 r5.length cc5)).setCell ⟨br,1,none⟩ (.bool b5)).alloc (.cells #[.string ⟨x.toArray⟩,.int .i64 (n3:Int),.int .i64 (n4:Int),.bool B] 67)):=(Bel.refl _).alloc _
       have E6:=Lib.hid (E5x.out.bel hal)
       have O6:=Lib.hid (ownsRow_bel O5x.out hal)
       have HX:Hid (Reads (((w5.setCell ⟨br,0,none⟩ (.slice A5 r5.length cc5)).setCell ⟨br,1,none⟩ (.bool b5)).alloc (.cells #[.string ⟨x.toArray⟩,.int .i64 (n3:Int),.int .i64 (n4:Int),.bool B] 67)) (w5.heap.size+1) 4 (some ⟨w5.heap.size,0,none⟩) 1 [.string ⟨x.toArray⟩,.int .i64 (n3:Int),.int .i64 (n4:Int),.bool B]):=by
        have:=reads4 ((w5.setCell ⟨br,0,none⟩ (.slice A5 r5.length cc5)).setCell ⟨br,1,none⟩ (.bool b5)) 67 (.string ⟨x.toArray⟩) (.int .i64 (n3:Int)) (.int .i64 (n4:Int)) (.bool B)
        show Reads _ _ _ _ _ _
        rw [show ((w5.setCell ⟨br,0,none⟩ (.slice A5 r5.length cc5)).setCell ⟨br,1,none⟩ (.bool b5)).heap.size=w5.heap.size by simp] at this
        exact this
       have hon : ∀ u ∈ ([.string ⟨x.toArray⟩,.int .i64 (n3:Int),.int .i64 (n4:Int),.bool B]:List Value),u.oneCell'=true:=fun u hu=>by
        simp at hu
        rcases hu with rfl | rfl | rfl | rfl <;> rfl
       have h63:k+1≤maxLen:=by unfold maxLen;omega
       have hby:(k+1) * 40≤140737488355328:=by omega
       have HBA:Hid (br+1≤(((w5.setCell ⟨br,0,none⟩ (.slice A5 r5.length cc5)).setCell ⟨br,1,none⟩ (.bool b5)).alloc (.cells #[.string ⟨x.toArray⟩,.int .i64 (n3:Int),.int .i64 (n4:Int),.bool B] 67)).heap.size):=E6.out.lt
       have HNM2:Hid (∀ cc ∈ L ++ [⟨⟨x.toArray⟩,(n3:Int),(n4:Int),B⟩],cc.name.size≤1000000):=fun cc hcc=>by
        rcases List.mem_append.1 hcc with h | h
        ·exact HNM.out cc h
        ·rw [List.mem_singleton] at h
         subst h
         show x.toArray.size≤1000000
         rw [List.size_toArray]
         omega
       have HVA:Hid (crows (L ++ [⟨⟨x.toArray⟩,(n3:Int),(n4:Int),B⟩])=crows L ++ [.string ⟨x.toArray⟩,.int .i64 (n3:Int),.int .i64 (n4:Int),.bool B]):=crows_append _ _
       obtain ⟨⟨y0,y1,y2⟩,-⟩:=E5x.out.cells
       clear hal E5 hb5 hv5 htr5
       go_wp2_with (at_builtin;refine wpList_append_any _ rfl (.tmp 69) (.tmp 76) _ rfl (br+1) 67 i0 _ 4 40 Tryz.underlying23 hi0 hz0 hz1 hz2 rfl hp4 (.slice A k c) k (crows L) (by rfl) O6.out _ (some ⟨w5.heap.size,0,none⟩) 1 1 [.string ⟨x.toArray⟩,.int .i64 (n3:Int),.int .i64 (n4:Int),.bool B] (by rfl) HX.out hon h63 hby HBA.out ?_;intro v9 w9 hown9 hg9 hat9;obtain ⟨A9,c9,rfl⟩:=row_any hown9;have E9:=Lib.hid (E6.out.grown hg9 (fun j e=>own_ge2 O6.out j e));have O9:=Lib.hid hown9;rw [← HVA.out] at O9;obtain ⟨⟨d0,d1,d2⟩,⟨h0,h1,h2⟩,-⟩:=E9.out.cells;clear hown9 hg9 hat9)
       have E10:=Lib.hid (E9.out.set0 (.slice A9 (k+1) c9))
       have O10:=Lib.hid (own_set4 O9.out (p:=⟨w.heap.size+1,0,none⟩) (by dsimp only;omega) (.slice A9 (k+1) c9))
       go_roundw
       case rel=>exact ⟨k+1,L ++ [(⟨⟨x.toArray⟩,(n3:Int),(n4:Int),B⟩:Col)],_,r5,b5,A9,c9,by omega,by omega,by go_num,by rw [List.length_append,hL];rfl,by omega,HNM2.out,E10.out,HV5.out,O10.out,HTK.out⟩
       case measure=>simp [intOf];omega
   ·have HEND:Hid (∀ c0 k0 u0,rightS c0 k0 u0=true→encSch c0 k0 u0=s→L=c0∧bad=false∧r'=(encList k0 ++ (numB u0.length ++ encLists u0))):=fun c0 k0 u0 h1 h2=>by
     obtain ⟨a1,a2,a3,a4⟩:=HT.out c0 k0 u0 h1 h2
     have:=right_small h1
     have hk:k=c0.length:=by
      have : ¬ (k<n∧k<9):=fun h=>hgo ⟨h.1,h.2,a2⟩
      omega
     rw [hk,List.take_length] at a3
     rw [hk,List.drop_length] at a4
     exact ⟨a3,a2,a4⟩
    clear HT
    by_cases hkn2:k<n
    ·by_cases hk92:k<9
     ·obtain rfl:bad=true:=by cases bad;exact absurd ⟨hkn2,hk92,rfl⟩ hgo;rfl
      have hkI:(k:Int)<n:=by omega
      have hkJ:(k:Int)<9:=by omega
      clear hgo
      go_wp2
      exact .inl ⟨_,_,_,_,_,_,_,_,_,_,_,_,_,_,_,_,_,_,_,_,_,_,_,_,_,_,_,_,_,_,_,_,_,_,_,_,_,_,_,_,_,_,_,_,_,_,_,_,_,_,_,_,_,_,_,_,_,_,_,_,_,_,_,_,_,_,_,_,_,k,L,_,r',true,A,c,by first | rfl | trivial,by first | rfl | trivial,hL,hk9,hr',HNM,HE,HV,HO,HEND⟩
     ·obtain rfl:k=9:=by omega
      have hkI:(9:Int)<n:=by omega
      clear hgo hk92
      go_wp2
      exact .inl ⟨_,_,_,_,_,_,_,_,_,_,_,_,_,_,_,_,_,_,_,_,_,_,_,_,_,_,_,_,_,_,_,_,_,_,_,_,_,_,_,_,_,_,_,_,_,_,_,_,_,_,_,_,_,_,_,_,_,_,_,_,_,_,_,_,_,_,_,_,_,9,L,_,r',bad,A,c,by first | rfl | trivial,by first | rfl | trivial,hL,hk9,hr',HNM,HE,HV,HO,HEND⟩
    ·obtain rfl:k=n:=by omega
     clear hgo hkn2
     go_wp2
     exact .inl ⟨_,_,_,_,_,_,_,_,_,_,_,_,_,_,_,_,_,_,_,_,_,_,_,_,_,_,_,_,_,_,_,_,_,_,_,_,_,_,_,_,_,_,_,_,_,_,_,_,_,_,_,_,_,_,_,_,_,_,_,_,_,_,_,_,_,_,_,_,_,k,L,_,r',bad,A,c,by first | rfl | trivial,by first | rfl | trivial,hL,hk9,hr',HNM,HE,HV,HO,HEND⟩
 ·intros V z3 z7 z8 z9 z10 z11 z12 z13 z18 z19 z20 z21 z22 z23 z24 z25 z26 z27 z28 z29 z30 z31 z32 z33 z34 z35 z36 z37 z38 z39 z40 z41 z42 z43 z44 z45 z46 z47 z48 z49 z50 z51 z52 z53 z54 z55 z56 z57 z58 z59 z60 z61 z62 z63 z64 z65 z66 z67 z68 z69 z70 z71 z72 z73 z74 z75 z76 z77 z78 k L vr r' bad A c hh
  obtain ⟨⟨hL,hk9,hr'⟩,HNM,HE,HV,HO,HT⟩:=hh
  clear E1 HV1 HT1
  obtain ⟨Ar,cr,hvre,-⟩:=id HV.out
  subst hvre
  refine zinBlock ?_
  dsimp only [Exit.then]
  go_at_K
  obtain ⟨⟨s0,s1,s2⟩,⟨f0,f1,f2⟩,⟨t0,t1⟩,g0,g1⟩:=HE.out.cells
  have HPL:=Lib.hid (r4places_any (.slice Ar r'.length cr) r' bad (by omega) w.heap.size V HE.out.1.size (HV.out.up HE.out.1))
  have hbrV:br+1≤V.heap.size:=HE.out.lt
  go_wp2_with fail
  refine HPL.out.mono ?_
  rintro e w3 ⟨v3,r3,b3,key,Ak,ck,rfl,hv3,hr3,hk9',hok,hb3,htr3⟩
  obtain ⟨A3,cc3,hv3e,-⟩:=id hv3
  subst hv3e
  have E3:=HE.out.bel hb3
  have E3x:=Lib.hid ((E3.reader (.slice A3 r3.length cc3) b3).set1 (.slice Ak key.length ck))
  obtain ⟨bk,hbk,hok⟩ : ∃ bk,br+1≤bk∧w3.ownsRow bk 3 1 (.slice Ak key.length ck) key.length (key.map (fun x=>Value.int .i64 x)):=⟨_,hbrV,hok⟩
  have OC3:=Lib.hid (own_set4 (own_set4 (own_set4 (ownsRow_bel HO.out hb3) (p:=⟨br,0,none⟩) (by dsimp only;omega) (.slice A3 r3.length cc3)) (p:=⟨br,1,none⟩) (by dsimp only;omega) (.bool b3)) (p:=⟨w.heap.size+1,1,none⟩) (by dsimp only;omega) (.slice Ak key.length ck))
  have OK3:=Lib.hid (own_set4 (own_set4 (own_set4 hok (p:=⟨br,0,none⟩) (by dsimp only;omega) (.slice A3 r3.length cc3)) (p:=⟨br,1,none⟩) (by dsimp only;omega) (.bool b3)) (p:=⟨w.heap.size+1,1,none⟩) (by dsimp only;omega) (.slice Ak key.length ck))
  have HV3:=Lib.hid (hv3.down E3.1)
  have HT3:Hid (∀ c0 k0 u0,rightS c0 k0 u0=true→encSch c0 k0 u0=s→L=c0∧key=k0∧b3=false∧r3=(numB u0.length ++ encLists u0)):=fun c0 k0 u0 h1 h2=>by
   obtain ⟨a1,a2,a3⟩:=HT.out c0 k0 u0 h1 h2
   have hs0:=(right_small h1).2.2.2.1
   obtain ⟨p1,p2,p3⟩:=htr3 k0 (numB u0.length ++ encLists u0) a2 hs0.1 hs0.2 a3
   exact ⟨a1,p1,p3,p2⟩
  obtain ⟨⟨m0,m1,m2⟩,⟨l0,l1,l2⟩,⟨n0,n1⟩,d0,d1⟩:=E3.cells
  have HN4:=Lib.hid (r4number_any (.slice A3 r3.length cc3) r3 b3 (by omega) w.heap.size (((w3.setCell ⟨br,0,none⟩ (.slice A3 r3.length cc3)).setCell ⟨br,1,none⟩ (.bool b3)).setCell ⟨w.heap.size+1,1,none⟩ (.slice Ak key.length ck)) E3x.out.1.size (HV3.out.up E3x.out.1))
  obtain ⟨-,-,⟨e0,e1⟩,-⟩:=E3x.out.cells
  clear s0 s1 s2 f0 f1 f2 t0 t1 g0 g1 HPL HE HV HO HT hv3 hok hb3 htr3 E3 hbrV
  go_wp2_with fail
  refine HN4.out.mono ?_
  rintro e w4 ⟨v4,r4,b4,u,rfl,hv4,hr4,hu4,hb4,htr4⟩
  obtain ⟨A4,cc4,hv4e,-⟩:=id hv4
  subst hv4e
  have E4:=E3x.out.bel hb4
  have E4x:=Lib.hid (E4.reader (.slice A4 r4.length cc4) b4)
  have OC4:=Lib.hid (own_set4 (own_set4 (ownsRow_bel OC3.out hb4) (p:=⟨br,0,none⟩) (by dsimp only;omega) (.slice A4 r4.length cc4)) (p:=⟨br,1,none⟩) (by dsimp only;omega) (.bool b4))
  have OK4:=Lib.hid (own_set4 (own_set4 (ownsRow_bel OK3.out hb4) (p:=⟨br,0,none⟩) (by dsimp only;omega) (.slice A4 r4.length cc4)) (p:=⟨br,1,none⟩) (by dsimp only;omega) (.bool b4))
  have HV4:=Lib.hid (hv4.down E4.1)
  have HT4:Hid (∀ c0 k0 u0,rightS c0 k0 u0=true→encSch c0 k0 u0=s→L=c0∧key=k0∧u=u0.length∧u≤3∧b4=false∧r4=encLists u0):=fun c0 k0 u0 h1 h2=>by
   obtain ⟨a1,a2,a3,a4⟩:=HT3.out c0 k0 u0 h1 h2
   have hs0:=(right_small h1).2.2.2.2.1
   obtain ⟨p1,p2,p3⟩:=htr4 u0.length (encLists u0) a3 (by omega) a4
   exact ⟨a1,a2,p1,by omega,p3,p2⟩
  obtain ⟨-,-,⟨x0,x1⟩,y0,y1⟩:=E4.cells
  have huI:(u:Int)≤1000:=by omega
  clear m0 m1 m2 l0 l1 l2 n0 n1 d0 d1 e0 e1 HN4 E3x OC3 OK3 HV3 HT3 hv4 hb4 htr4 E4
  go_wp2_with fail
  go_loopw [14] (fun i wr=>∃ (j:Nat) (LU:List (List Int)) (us:List Value) (vr:Value) (r':List UInt8) (bad':Bool) (A2:Option Addr) (c2:Nat),j≤u∧j≤4∧i = .int .i64 j∧r'.length≤s.length∧LU.length=j∧Hid (ESt w br (.slice A k c) (.slice Ak key.length ck) (.slice A2 j c2) vr bad' wr)∧Hid (BsI w.heap.size w vr r')∧Hid (wr.ownsRow (br+1) 24 1 (.slice A2 j c2) j us∧RowsI (br+1) wr us LU)∧Hid (wr.ownsRow (br+1) 67 4 (.slice A k c) k (crows L))∧Hid (wr.ownsRow bk 3 1 (.slice Ak key.length ck) key.length (key.map (fun x=>Value.int .i64 x)))∧Hid (∀ c0 k0 u0,rightS c0 k0 u0=true→encSch c0 k0 u0=s→L=c0∧key=k0∧u=u0.length∧u≤3∧bad'=false∧LU=u0.take j∧r'=encLists (u0.drop j))) (fun i _=>4 - (intOf i).toNat)
  case atStart=>exact ⟨0,[],[],_,r4,b4,none,0,Nat.zero_le _,Nat.zero_le _,rfl,by omega,rfl,E4x.out,HV4.out,⟨World.ownsRow_nil _ _ _ _,rfl,fun j u l h=>by simp at h⟩,OC4.out,OK4.out,fun c0 k0 u0 h1 h2=>by obtain ⟨a1,a2,a3,a4,a5,a6⟩:=HT4.out c0 k0 u0 h1 h2;exact ⟨a1,a2,a3,a4,a5,rfl,a6⟩⟩
  case round =>
   obtain ⟨j,LU,us,vr,r',bad',A2,c2,hju,hj4,rfl,hr',hLU,E,HV,OU,OC,OK,HT⟩:=hrel
   obtain ⟨Ar,cr,hvre,-⟩:=id HV.out
   subst hvre
   by_cases hgo:j<u∧j<4
   ·have hjI:(j:Int)<u:=by omega
    have hjJ:(j:Int)<4:=by omega
    obtain ⟨⟨s0,s1,s2⟩,⟨f0,f1,f2⟩,⟨t0,t1⟩,g0,g1⟩:=E.out.cells
    have HPJ:=Lib.hid (r4places_any (.slice Ar r'.length cr) r' bad' (by omega) w.heap.size wr E.out.1.size (HV.out.up E.out.1))
    have hbrV:br+1≤wr.heap.size:=E.out.lt
    go_wp2_with fail
    refine HPJ.out.mono ?_
    rintro e w7 ⟨v7,r7,b7,l,Al,cl,rfl,hv7,hr7,hl9,hol,hb7,htr7⟩
    obtain ⟨A7,cc7,hv7e,-⟩:=id hv7
    subst hv7e
    have E7:=E.out.bel hb7
    have E7x:=E7.reader (.slice A7 r7.length cc7) b7
    have hs2:=fun {b T s n:Nat} {v:Value} {xs:List Value} (h:w7.ownsRow b T s v n xs) (hb:br+1≤b)=>own_set4 (own_set4 h (p:=⟨br,0,none⟩) (by dsimp only;omega) (.slice A7 r7.length cc7)) (p:=⟨br,1,none⟩) (by dsimp only;omega) (.bool b7)
    have hal:Bel ((w7.setCell ⟨br,0,none⟩ (.slice A7 r7.length cc7)).setCell ⟨br,1,none⟩ (.bool b7)) (((w7.setCell ⟨br,0,none⟩ (.slice A7 r7.length cc7)).setCell ⟨br,1,none⟩ (.bool b7)).alloc (.cells #[.slice Al l.length cl] 24)):=(Bel.refl _).alloc _
    have E8:=Lib.hid (E7x.bel hal)
    have OU8:=Lib.hid (ownsRow_bel (hs2 (ownsRow_bel OU.out.1 hb7) (Nat.le_refl _)) hal)
    have RI8:=Lib.hid ((((OU.out.2.bel hb7).set (p:=⟨br,0,none⟩) (by dsimp only;omega) (.slice A7 r7.length cc7)).set (p:=⟨br,1,none⟩) (by dsimp only;omega) (.bool b7)).bel hal)
    have OC8:=Lib.hid (ownsRow_bel (hs2 (ownsRow_bel OC.out hb7) (Nat.le_refl _)) hal)
    have OK8:=Lib.hid (ownsRow_bel (hs2 (ownsRow_bel OK.out hb7) hbk) hal)
    have OL8:=Lib.hid (ownsRow_bel (hs2 hol hbrV) hal)
    have HX:Hid (Reads (((w7.setCell ⟨br,0,none⟩ (.slice A7 r7.length cc7)).setCell ⟨br,1,none⟩ (.bool b7)).alloc (.cells #[.slice Al l.length cl] 24)) (((w7.setCell ⟨br,0,none⟩ (.slice A7 r7.length cc7)).setCell ⟨br,1,none⟩ (.bool b7)).alloc (.cells #[.slice Al l.length cl] 24)).heap.size 1 (some ⟨w7.heap.size,0,none⟩) 1 [.slice Al l.length cl]):=by
     have h:=zreads_new ((w7.setCell ⟨br,0,none⟩ (.slice A7 r7.length cc7)).setCell ⟨br,1,none⟩ (.bool b7)) (.slice Al l.length cl) 24
     rw [show ((w7.setCell ⟨br,0,none⟩ (.slice A7 r7.length cc7)).setCell ⟨br,1,none⟩ (.bool b7)).heap.size=w7.heap.size by simp] at h
     exact h
    have hone : ∀ u ∈ [(.slice Al l.length cl:Value)],u.oneCell'=true:=by simp [Value.oneCell']
    have h63:j+1≤maxLen:=by unfold maxLen;omega
    have hby:(j+1) * 24≤140737488355328:=by omega
    have HBA:Hid (br+1≤(((w7.setCell ⟨br,0,none⟩ (.slice A7 r7.length cc7)).setCell ⟨br,1,none⟩ (.bool b7)).alloc (.cells #[.slice Al l.length cl] 24)).heap.size):=E8.out.lt
    have HV7:=Lib.hid (hv7.down E7.1)
    have HBV:=Lib.hid hbrV
    have HTJ:Hid (∀ c0 k0 u0,rightS c0 k0 u0=true→encSch c0 k0 u0=s→L=c0∧key=k0∧u=u0.length∧u≤3∧b7=false∧LU ++ [l]=u0.take (j+1)∧r7=encLists (u0.drop (j+1))):=fun c0 k0 u0 h1 h2=>by
     obtain ⟨a1,a2,a3,a4,a5,a6,a7⟩:=HT.out c0 k0 u0 h1 h2
     have hj0:j<u0.length:=by omega
     have hs0:=(right_small h1).2.2.2.2.2 u0[j] (List.getElem_mem hj0)
     rw [List.drop_eq_getElem_cons hj0] at a7
     obtain ⟨p1,p2,p3⟩:=htr7 u0[j] (encLists (u0.drop (j+1))) a5 hs0.1 hs0.2 a7
     exact ⟨a1,a2,a3,a4,p3,by rw [List.take_add_one,List.getElem?_eq_getElem hj0,a6,p1];rfl,p2⟩
    obtain ⟨⟨m0,m1,m2⟩,⟨l0,l1,l2⟩,⟨n0,n1⟩,d0,d1⟩:=E7.cells
    have hgj:=hgo
    clear s0 s1 s2 f0 f1 f2 t0 t1 g0 g1 HPJ hv7 hol htr7 E7x hal E7 hb7 hbrV HT HV
    go_wp2_with (at_builtin;refine wpList_append_any _ rfl (.tmp 105) (.tmp 107) _ rfl (br+1) 24 j0 _ 1 24 Tryz.underlying25 hj0 hy0 hy1 hy2 rfl hp1 (.slice A2 j c2) j us (by rfl) OU8.out _ (some ⟨w7.heap.size,0,none⟩) 1 1 _ (by rfl) HX.out hone h63 hby HBA.out ?_;intro v9 w9 hown9 hg9 hat9;obtain ⟨A9,c9,rfl⟩:=row_any hown9;have E9:=Lib.hid (E8.out.grown hg9 (fun j e=>own_ge2 OU8.out j e));have RI9:=Lib.hid ((RI8.out.keep OU8.out hg9).snoc hown9.1 (zown_keep OU8.out OL8.out (by decide) hg9) HBV.out);have OC9:=Lib.hid (zown_keep OU8.out OC8.out (by decide) hg9);have OK9:=Lib.hid (zown_keep OU8.out OK8.out (by decide) hg9);have OU9:=Lib.hid hown9;obtain ⟨⟨x0',x1',x2'⟩,⟨y0',y1',y2'⟩,-⟩:=E9.out.cells;clear hown9 hg9 hat9)
    have E10:=Lib.hid (E9.out.set2 (.slice A9 (j+1) c9))
    have OU10:=Lib.hid (own_set4 OU9.out (p:=⟨w.heap.size+1,2,none⟩) (by dsimp only;omega) (.slice A9 (j+1) c9))
    have OC10:=Lib.hid (own_set4 OC9.out (p:=⟨w.heap.size+1,2,none⟩) (by dsimp only;omega) (.slice A9 (j+1) c9))
    have OK10:=Lib.hid (own_set4 OK9.out (p:=⟨w.heap.size+1,2,none⟩) (by dsimp only;omega) (.slice A9 (j+1) c9))
    have RI10:=Lib.hid (RI9.out.set (p:=⟨w.heap.size+1,2,none⟩) (by dsimp only;omega) (.slice A9 (j+1) c9))
    go_roundw
    case rel=>exact ⟨j+1,LU ++ [l],us ++ [.slice Al l.length cl],_,r7,b7,A9,c9,by omega,by omega,by go_num,by omega,by rw [List.length_append,hLU];rfl,E10.out,HV7.out,⟨OU10.out,RI10.out⟩,OC10.out,OK10.out,HTJ.out⟩
    case measure=>simp [intOf];omega
   ·have HT2:=Lib.hid (fun c0 k0 u0 (h1:rightS c0 k0 u0=true) (h2:encSch c0 k0 u0=s)=>show L=c0∧key=k0∧LU=u0∧bad'=false from by
     obtain ⟨a1,a2,a3,a4,a5,a6,a7⟩:=HT.out c0 k0 u0 h1 h2
     have hj:j=u0.length:=by omega
     rw [hj,List.take_length] at a6
     exact ⟨a1,a2,a6,a5⟩)
    clear HT
    clear E4x OC4 OK4 HV4 HT4
    by_cases hj4':j<4
    ·obtain rfl:j=u:=by omega
     clear hgo
     have HLN:=hL
     have hcols:=cols_of_own OC.out hL.symm
     have hkey:=ints_of_own OK.out
     have huq:=lists_of_own OU.out.1 OU.out.2
     have HEN:=Lib.hid (r4EncodeSchema_any _ _ _ L key LU wr hcols hkey huq (fun cc hcc=>by have:=HNM.out cc hcc;omega))
     obtain ⟨⟨z0',z1',z2'⟩,-,⟨y0,y1⟩,-⟩:=E.out.cells
     clear hcols hkey huq
     go_wp2_with fail
     refine HEN.out.mono ?_
     rintro e w7 ⟨v7,rfl,hv7,hb7⟩
     have E7:=Lib.hid (E.out.bel hb7)
     have hbs7:=(HBS.out.bel E7.out.1)
     obtain ⟨⟨g0,g1,g2⟩,-,⟨x0,x1⟩,-⟩:=E7.out.cells
     obtain ⟨⟨q0,q1,q2⟩,o0,o1,o2⟩:=E7.out.res
     have OU7:=Lib.hid (And.intro (ownsRow_bel OU.out.1 hb7) (OU.out.2.bel hb7))
     have OC7:=Lib.hid (ownsRow_bel OC.out hb7)
     have OK7:=Lib.hid (ownsRow_bel OK.out hb7)
     have HNF:Hid ((∀ c0 k0 u0,rightS c0 k0 u0=true→encSch c0 k0 u0=s → ¬ (rightS L key LU=true∧encSch L key LU=s∧bad'=false)→False)):=fun c0 k0 u0 h1 h2 h3=>by
      obtain ⟨a1,a2,a3,a4⟩:=HT2.out c0 k0 u0 h1 h2
      exact h3 ⟨by rw [a1,a2,a3];exact h1,by rw [a1,a2,a3];exact h2,a4⟩
     have HBAD:Hid (¬ (rightS L key LU=true∧encSch L key LU=s∧bad'=false)→R=none):=fun h=>HNO.out fun c0 k0 u0 hc=>by
      obtain ⟨h1,h2⟩:=HRS.out c0 k0 u0 hc
      exact HNF.out c0 k0 u0 h1 h2 h
     have HZF:Hid ((fun V=>Bel w V∧V.cell? ⟨w.heap.size,0,none⟩=some (.slice none 0 0)∧V.cell? ⟨w.heap.size,1,none⟩=some (.slice none 0 0)∧V.cell? ⟨w.heap.size,2,none⟩=some (.slice none 0 0)) (((w7.setCell ⟨w.heap.size,0,none⟩ (.slice none 0 0)).setCell ⟨w.heap.size,1,none⟩ (.slice none 0 0)).setCell ⟨w.heap.size,2,none⟩ (.slice none 0 0))):=by
      have hK:=((E7.out.2.1.set_ 0 (.slice none 0 0)).set_ 1 (.slice none 0 0)).set_ 2 (.slice none 0 0)
      exact ⟨((E7.out.1.setCell (Nat.le_refl _) _).setCell (Nat.le_refl _) _).setCell (Nat.le_refl _) _,(hK.cell 0).trans rfl,(hK.cell 1).trans rfl,(hK.cell 2).trans rfl⟩
     have HCV:=Lib.hid hv7
     obtain ⟨A7,c7,rfl,-,-,r7⟩:=hv7
     obtain ⟨Ab',cb',hbe,-,-,rb⟩:=hbs7
     injection hbe with hbe1 hbe2 hbe3
     subst hbe1 hbe3
     have hca:(convert 34 9 (.slice A7 (encSR L key LU).1.length c7)).run Tryz.prog w7 = .ok (.string ⟨(encSR L key LU).1.toArray⟩) w7:=conv_reads _ r7
     have hcb:(convert 34 9 (.slice Ab s.length cb)).run Tryz.prog w7 = .ok (.string ⟨s.toArray⟩) w7:=conv_reads (s:=s) _ rb
     clear hb7 r7 rb z0' z1' z2' y0 y1 HEN E OU OC OK HCV hbe2
     unfold encSR at hca ⊢
     cases bad' with
     | true =>
       obtain rfl:R=none:=HBAD.out (fun h=>by cases h.2.2)
       clear HBAD HNF HT2
       by_cases hri:rightS L key LU=true
       ·rw [if_pos hri] at hca ⊢
        dsimp only at hca ⊢
        clear hri
        go_wp2
        refine bodyPost_ret (v:=.tuple #[.agg #[.slice none 0 0,.slice none 0 0,.slice none 0 0],.int .i64 140]) (by simp [results,Tryz.results46,go_sem,HZF.out.2.1,HZF.out.2.2.1,HZF.out.2.2.2]) rfl ⟨rfl,HZF.out.1⟩
       ·rw [if_neg hri] at hca ⊢
        dsimp only at hca ⊢
        clear hri
        go_wp2
        refine bodyPost_ret (v:=.tuple #[.agg #[.slice none 0 0,.slice none 0 0,.slice none 0 0],.int .i64 140]) (by simp [results,Tryz.results46,go_sem,HZF.out.2.1,HZF.out.2.2.1,HZF.out.2.2.2]) rfl ⟨rfl,HZF.out.1⟩
     | false =>
       by_cases hri:rightS L key LU=true
       ·rw [if_pos hri] at hca ⊢
        dsimp only at hca ⊢
        obtain ⟨SE,hSE⟩ : ∃ x:ByteArray,x=⟨(encSch L key LU).toArray⟩:=⟨_,rfl⟩
        obtain ⟨SB,hSB⟩ : ∃ x:ByteArray,x=⟨s.toArray⟩:=⟨_,rfl⟩
        rw [← hSE] at hca
        rw [← hSB] at hcb
        by_cases heq:encSch L key LU=s
        ·obtain rfl:R=some (L,key,LU):=HRE.out L key LU hri heq
         obtain rfl:SE=SB:=by rw [hSE,hSB,heq]
         have HFIN:Hid ((fun V=>ColsIn w.heap.size V (.slice A k c) L∧IntsIn w.heap.size V (.slice Ak key.length ck) key∧ListsIn w.heap.size V (.slice A2 j c2) LU∧Bel w V∧V.cell? ⟨w.heap.size,0,none⟩=some (.slice A k c)∧V.cell? ⟨w.heap.size,1,none⟩=some (.slice Ak key.length ck)∧V.cell? ⟨w.heap.size,2,none⟩=some (.slice A2 j c2)) (((w7.setCell ⟨w.heap.size,0,none⟩ (.slice A k c)).setCell ⟨w.heap.size,1,none⟩ (.slice Ak key.length ck)).setCell ⟨w.heap.size,2,none⟩ (.slice A2 j c2))):=by
          have a0:=fun {b T s n:Nat} {v:Value} {xs:List Value} (V:World) (h:V.ownsRow b T s v n xs) (hb:br+1≤b) (p:Addr) (hp:p.block<br) (q:Value)=>own_set4 (p:=p) h (by omega) q
          have h0:(⟨w.heap.size,0,none⟩:Addr).block<br:=by dsimp only;omega
          have h1:(⟨w.heap.size,1,none⟩:Addr).block<br:=by dsimp only;omega
          have h2:(⟨w.heap.size,2,none⟩:Addr).block<br:=by dsimp only;omega
          have k0:(⟨w.heap.size,0,none⟩:Addr).block<br+1:=by dsimp only;omega
          have k1:(⟨w.heap.size,1,none⟩:Addr).block<br+1:=by dsimp only;omega
          have k2:(⟨w.heap.size,2,none⟩:Addr).block<br+1:=by dsimp only;omega
          have hK:=((E7.out.2.1.set_ 0 (.slice A k c)).set_ 1 (.slice Ak key.length ck)).set_ 2 (.slice A2 j c2)
          exact ⟨cols_in (a0 _ (a0 _ (a0 _ OC7.out (Nat.le_refl _) _ h0 _) (Nat.le_refl _) _ h1 _) (Nat.le_refl _) _ h2 _) HLN.symm,
           ints_in (a0 _ (a0 _ (a0 _ OK7.out hbk _ h0 _) hbk _ h1 _) hbk _ h2 _),
           lists_in (a0 _ (a0 _ (a0 _ OU7.out.1 (Nat.le_refl _) _ h0 _) (Nat.le_refl _) _ h1 _) (Nat.le_refl _) _ h2 _) (((OU7.out.2.set k0 _).set k1 _).set k2 _),
           ((E7.out.1.setCell (Nat.le_refl _) _).setCell (Nat.le_refl _) _).setCell (Nat.le_refl _) _,(hK.cell 0).trans rfl,(hK.cell 1).trans rfl,(hK.cell 2).trans rfl⟩
         clear HBAD HNF HT2 hSE hSB heq hri OU7 OC7 OK7
         go_wp2
         obtain ⟨p0,p1,p2,p3,p4,p5,p6⟩:=HFIN.out
         refine bodyPost_ret (v:=.tuple #[.agg #[.slice A k c,.slice Ak key.length ck,.slice A2 j c2],.int .i64 0]) (by simp [results,Tryz.results46,go_sem,p4,p5,p6]) rfl ⟨_,_,_,rfl,p0,p1,p2,p3⟩
        ·obtain rfl:R=none:=HBAD.out (fun h=>heq h.2.1)
         have hne:(SE.toList == SB.toList)=false:=by
          rw [hSE,hSB,str_beq]
          exact decide_eq_false fun e=>heq (by have:=congrArg ByteArray.data e;simpa using this)
         clear HBAD HNF HT2 hSE hSB heq hri
         go_wp2
         refine bodyPost_ret (v:=.tuple #[.agg #[.slice none 0 0,.slice none 0 0,.slice none 0 0],.int .i64 140]) (by simp [results,Tryz.results46,go_sem,HZF.out.2.1,HZF.out.2.2.1,HZF.out.2.2.2]) rfl ⟨rfl,HZF.out.1⟩
       ·rw [if_neg hri] at hca ⊢
        dsimp only at hca ⊢
        obtain rfl:R=none:=HBAD.out (fun h=>hri h.1)
        clear HBAD HNF HT2 hri
        go_wp2
        refine bodyPost_ret (v:=.tuple #[.agg #[.slice none 0 0,.slice none 0 0,.slice none 0 0],.int .i64 140]) (by simp [results,Tryz.results46,go_sem,HZF.out.2.1,HZF.out.2.2.1,HZF.out.2.2.2]) rfl ⟨rfl,HZF.out.1⟩
    ·obtain rfl:j=4:=by omega
     have hnI2:(4:Int)<u ∨ u=4:=by omega
     clear hgo
     rcases hnI2 with hnI2 | rfl
     ·clear hj4'
      have HLN:=hL
      have hcols:=cols_of_own OC.out hL.symm
      have hkey:=ints_of_own OK.out
      have huq:=lists_of_own OU.out.1 OU.out.2
      have HEN:=Lib.hid (r4EncodeSchema_any _ _ _ L key LU wr hcols hkey huq (fun cc hcc=>by have:=HNM.out cc hcc;omega))
      obtain ⟨⟨z0',z1',z2'⟩,-,⟨y0,y1⟩,-⟩:=E.out.cells
      clear hcols hkey huq
      go_wp2_with fail
      refine HEN.out.mono ?_
      rintro e w7 ⟨v7,rfl,hv7,hb7⟩
      have E7:=Lib.hid (E.out.bel hb7)
      have hbs7:=(HBS.out.bel E7.out.1)
      obtain ⟨⟨g0,g1,g2⟩,-,⟨x0,x1⟩,-⟩:=E7.out.cells
      obtain ⟨⟨q0,q1,q2⟩,o0,o1,o2⟩:=E7.out.res
      have OU7:=Lib.hid (And.intro (ownsRow_bel OU.out.1 hb7) (OU.out.2.bel hb7))
      have OC7:=Lib.hid (ownsRow_bel OC.out hb7)
      have OK7:=Lib.hid (ownsRow_bel OK.out hb7)
      have HNF:Hid ((∀ c0 k0 u0,rightS c0 k0 u0=true→encSch c0 k0 u0=s → ¬ (rightS L key LU=true∧encSch L key LU=s∧bad'=false)→False)):=fun c0 k0 u0 h1 h2 h3=>by
       obtain ⟨a1,a2,a3,a4⟩:=HT2.out c0 k0 u0 h1 h2
       exact h3 ⟨by rw [a1,a2,a3];exact h1,by rw [a1,a2,a3];exact h2,a4⟩
      have HBAD:Hid (¬ (rightS L key LU=true∧encSch L key LU=s∧bad'=false)→R=none):=fun h=>HNO.out fun c0 k0 u0 hc=>by
       obtain ⟨h1,h2⟩:=HRS.out c0 k0 u0 hc
       exact HNF.out c0 k0 u0 h1 h2 h
      have HZF:Hid ((fun V=>Bel w V∧V.cell? ⟨w.heap.size,0,none⟩=some (.slice none 0 0)∧V.cell? ⟨w.heap.size,1,none⟩=some (.slice none 0 0)∧V.cell? ⟨w.heap.size,2,none⟩=some (.slice none 0 0)) (((w7.setCell ⟨w.heap.size,0,none⟩ (.slice none 0 0)).setCell ⟨w.heap.size,1,none⟩ (.slice none 0 0)).setCell ⟨w.heap.size,2,none⟩ (.slice none 0 0))):=by
       have hK:=((E7.out.2.1.set_ 0 (.slice none 0 0)).set_ 1 (.slice none 0 0)).set_ 2 (.slice none 0 0)
       exact ⟨((E7.out.1.setCell (Nat.le_refl _) _).setCell (Nat.le_refl _) _).setCell (Nat.le_refl _) _,(hK.cell 0).trans rfl,(hK.cell 1).trans rfl,(hK.cell 2).trans rfl⟩
      have HCV:=Lib.hid hv7
      obtain ⟨A7,c7,rfl,-,-,r7⟩:=hv7
      obtain ⟨Ab',cb',hbe,-,-,rb⟩:=hbs7
      injection hbe with hbe1 hbe2 hbe3
      subst hbe1 hbe3
      have hca:(convert 34 9 (.slice A7 (encSR L key LU).1.length c7)).run Tryz.prog w7 = .ok (.string ⟨(encSR L key LU).1.toArray⟩) w7:=conv_reads _ r7
      have hcb:(convert 34 9 (.slice Ab s.length cb)).run Tryz.prog w7 = .ok (.string ⟨s.toArray⟩) w7:=conv_reads (s:=s) _ rb
      clear hb7 r7 rb z0' z1' z2' y0 y1 HEN E OU OC OK HCV hbe2
      unfold encSR at hca ⊢
      cases bad' with
      | true =>
        obtain rfl:R=none:=HBAD.out (fun h=>by cases h.2.2)
        clear HBAD HNF HT2
        by_cases hri:rightS L key LU=true
        ·rw [if_pos hri] at hca ⊢
         dsimp only at hca ⊢
         clear hri
         go_wp2
         refine bodyPost_ret (v:=.tuple #[.agg #[.slice none 0 0,.slice none 0 0,.slice none 0 0],.int .i64 140]) (by simp [results,Tryz.results46,go_sem,HZF.out.2.1,HZF.out.2.2.1,HZF.out.2.2.2]) rfl ⟨rfl,HZF.out.1⟩
        ·rw [if_neg hri] at hca ⊢
         dsimp only at hca ⊢
         clear hri
         go_wp2
         refine bodyPost_ret (v:=.tuple #[.agg #[.slice none 0 0,.slice none 0 0,.slice none 0 0],.int .i64 140]) (by simp [results,Tryz.results46,go_sem,HZF.out.2.1,HZF.out.2.2.1,HZF.out.2.2.2]) rfl ⟨rfl,HZF.out.1⟩
      | false =>
        by_cases hri:rightS L key LU=true
        ·rw [if_pos hri] at hca ⊢
         dsimp only at hca ⊢
         obtain ⟨SE,hSE⟩ : ∃ x:ByteArray,x=⟨(encSch L key LU).toArray⟩:=⟨_,rfl⟩
         obtain ⟨SB,hSB⟩ : ∃ x:ByteArray,x=⟨s.toArray⟩:=⟨_,rfl⟩
         rw [← hSE] at hca
         rw [← hSB] at hcb
         by_cases heq:encSch L key LU=s
         ·obtain rfl:R=some (L,key,LU):=HRE.out L key LU hri heq
          obtain rfl:SE=SB:=by rw [hSE,hSB,heq]
          have HFIN:Hid ((fun V=>ColsIn w.heap.size V (.slice A k c) L∧IntsIn w.heap.size V (.slice Ak key.length ck) key∧ListsIn w.heap.size V (.slice A2 4 c2) LU∧Bel w V∧V.cell? ⟨w.heap.size,0,none⟩=some (.slice A k c)∧V.cell? ⟨w.heap.size,1,none⟩=some (.slice Ak key.length ck)∧V.cell? ⟨w.heap.size,2,none⟩=some (.slice A2 4 c2)) (((w7.setCell ⟨w.heap.size,0,none⟩ (.slice A k c)).setCell ⟨w.heap.size,1,none⟩ (.slice Ak key.length ck)).setCell ⟨w.heap.size,2,none⟩ (.slice A2 4 c2))):=by
           have a0:=fun {b T s n:Nat} {v:Value} {xs:List Value} (V:World) (h:V.ownsRow b T s v n xs) (hb:br+1≤b) (p:Addr) (hp:p.block<br) (q:Value)=>own_set4 (p:=p) h (by omega) q
           have h0:(⟨w.heap.size,0,none⟩:Addr).block<br:=by dsimp only;omega
           have h1:(⟨w.heap.size,1,none⟩:Addr).block<br:=by dsimp only;omega
           have h2:(⟨w.heap.size,2,none⟩:Addr).block<br:=by dsimp only;omega
           have k0:(⟨w.heap.size,0,none⟩:Addr).block<br+1:=by dsimp only;omega
           have k1:(⟨w.heap.size,1,none⟩:Addr).block<br+1:=by dsimp only;omega
           have k2:(⟨w.heap.size,2,none⟩:Addr).block<br+1:=by dsimp only;omega
           have hK:=((E7.out.2.1.set_ 0 (.slice A k c)).set_ 1 (.slice Ak key.length ck)).set_ 2 (.slice A2 4 c2)
           exact ⟨cols_in (a0 _ (a0 _ (a0 _ OC7.out (Nat.le_refl _) _ h0 _) (Nat.le_refl _) _ h1 _) (Nat.le_refl _) _ h2 _) HLN.symm,
            ints_in (a0 _ (a0 _ (a0 _ OK7.out hbk _ h0 _) hbk _ h1 _) hbk _ h2 _),
            lists_in (a0 _ (a0 _ (a0 _ OU7.out.1 (Nat.le_refl _) _ h0 _) (Nat.le_refl _) _ h1 _) (Nat.le_refl _) _ h2 _) (((OU7.out.2.set k0 _).set k1 _).set k2 _),
            ((E7.out.1.setCell (Nat.le_refl _) _).setCell (Nat.le_refl _) _).setCell (Nat.le_refl _) _,(hK.cell 0).trans rfl,(hK.cell 1).trans rfl,(hK.cell 2).trans rfl⟩
          clear HBAD HNF HT2 hSE hSB heq hri OU7 OC7 OK7
          go_wp2
          obtain ⟨p0,p1,p2,p3,p4,p5,p6⟩:=HFIN.out
          refine bodyPost_ret (v:=.tuple #[.agg #[.slice A k c,.slice Ak key.length ck,.slice A2 4 c2],.int .i64 0]) (by simp [results,Tryz.results46,go_sem,p4,p5,p6]) rfl ⟨_,_,_,rfl,p0,p1,p2,p3⟩
         ·obtain rfl:R=none:=HBAD.out (fun h=>heq h.2.1)
          have hne:(SE.toList == SB.toList)=false:=by
           rw [hSE,hSB,str_beq]
           exact decide_eq_false fun e=>heq (by have:=congrArg ByteArray.data e;simpa using this)
          clear HBAD HNF HT2 hSE hSB heq hri
          go_wp2
          refine bodyPost_ret (v:=.tuple #[.agg #[.slice none 0 0,.slice none 0 0,.slice none 0 0],.int .i64 140]) (by simp [results,Tryz.results46,go_sem,HZF.out.2.1,HZF.out.2.2.1,HZF.out.2.2.2]) rfl ⟨rfl,HZF.out.1⟩
        ·rw [if_neg hri] at hca ⊢
         dsimp only at hca ⊢
         obtain rfl:R=none:=HBAD.out (fun h=>hri h.1)
         clear HBAD HNF HT2 hri
         go_wp2
         refine bodyPost_ret (v:=.tuple #[.agg #[.slice none 0 0,.slice none 0 0,.slice none 0 0],.int .i64 140]) (by simp [results,Tryz.results46,go_sem,HZF.out.2.1,HZF.out.2.2.1,HZF.out.2.2.2]) rfl ⟨rfl,HZF.out.1⟩
     ·clear hj4'
      have HLN:=hL
      have hcols:=cols_of_own OC.out hL.symm
      have hkey:=ints_of_own OK.out
      have huq:=lists_of_own OU.out.1 OU.out.2
      have HEN:=Lib.hid (r4EncodeSchema_any _ _ _ L key LU wr hcols hkey huq (fun cc hcc=>by have:=HNM.out cc hcc;omega))
      obtain ⟨⟨z0',z1',z2'⟩,-,⟨y0,y1⟩,-⟩:=E.out.cells
      clear hcols hkey huq
      go_wp2_with fail
      refine HEN.out.mono ?_
      rintro e w7 ⟨v7,rfl,hv7,hb7⟩
      have E7:=Lib.hid (E.out.bel hb7)
      have hbs7:=(HBS.out.bel E7.out.1)
      obtain ⟨⟨g0,g1,g2⟩,-,⟨x0,x1⟩,-⟩:=E7.out.cells
      obtain ⟨⟨q0,q1,q2⟩,o0,o1,o2⟩:=E7.out.res
      have OU7:=Lib.hid (And.intro (ownsRow_bel OU.out.1 hb7) (OU.out.2.bel hb7))
      have OC7:=Lib.hid (ownsRow_bel OC.out hb7)
      have OK7:=Lib.hid (ownsRow_bel OK.out hb7)
      have HNF:Hid ((∀ c0 k0 u0,rightS c0 k0 u0=true→encSch c0 k0 u0=s → ¬ (rightS L key LU=true∧encSch L key LU=s∧bad'=false)→False)):=fun c0 k0 u0 h1 h2 h3=>by
       obtain ⟨a1,a2,a3,a4⟩:=HT2.out c0 k0 u0 h1 h2
       exact h3 ⟨by rw [a1,a2,a3];exact h1,by rw [a1,a2,a3];exact h2,a4⟩
      have HBAD:Hid (¬ (rightS L key LU=true∧encSch L key LU=s∧bad'=false)→R=none):=fun h=>HNO.out fun c0 k0 u0 hc=>by
       obtain ⟨h1,h2⟩:=HRS.out c0 k0 u0 hc
       exact HNF.out c0 k0 u0 h1 h2 h
      have HZF:Hid ((fun V=>Bel w V∧V.cell? ⟨w.heap.size,0,none⟩=some (.slice none 0 0)∧V.cell? ⟨w.heap.size,1,none⟩=some (.slice none 0 0)∧V.cell? ⟨w.heap.size,2,none⟩=some (.slice none 0 0)) (((w7.setCell ⟨w.heap.size,0,none⟩ (.slice none 0 0)).setCell ⟨w.heap.size,1,none⟩ (.slice none 0 0)).setCell ⟨w.heap.size,2,none⟩ (.slice none 0 0))):=by
       have hK:=((E7.out.2.1.set_ 0 (.slice none 0 0)).set_ 1 (.slice none 0 0)).set_ 2 (.slice none 0 0)
       exact ⟨((E7.out.1.setCell (Nat.le_refl _) _).setCell (Nat.le_refl _) _).setCell (Nat.le_refl _) _,(hK.cell 0).trans rfl,(hK.cell 1).trans rfl,(hK.cell 2).trans rfl⟩
      have HCV:=Lib.hid hv7
      obtain ⟨A7,c7,rfl,-,-,r7⟩:=hv7
      obtain ⟨Ab',cb',hbe,-,-,rb⟩:=hbs7
      injection hbe with hbe1 hbe2 hbe3
      subst hbe1 hbe3
      have hca:(convert 34 9 (.slice A7 (encSR L key LU).1.length c7)).run Tryz.prog w7 = .ok (.string ⟨(encSR L key LU).1.toArray⟩) w7:=conv_reads _ r7
      have hcb:(convert 34 9 (.slice Ab s.length cb)).run Tryz.prog w7 = .ok (.string ⟨s.toArray⟩) w7:=conv_reads (s:=s) _ rb
      clear hb7 r7 rb z0' z1' z2' y0 y1 HEN E OU OC OK HCV hbe2
      unfold encSR at hca ⊢
      cases bad' with
      | true =>
        obtain rfl:R=none:=HBAD.out (fun h=>by cases h.2.2)
        clear HBAD HNF HT2
        by_cases hri:rightS L key LU=true
        ·rw [if_pos hri] at hca ⊢
         dsimp only at hca ⊢
         clear hri
         go_wp2
         refine bodyPost_ret (v:=.tuple #[.agg #[.slice none 0 0,.slice none 0 0,.slice none 0 0],.int .i64 140]) (by simp [results,Tryz.results46,go_sem,HZF.out.2.1,HZF.out.2.2.1,HZF.out.2.2.2]) rfl ⟨rfl,HZF.out.1⟩
        ·rw [if_neg hri] at hca ⊢
         dsimp only at hca ⊢
         clear hri
         go_wp2
         refine bodyPost_ret (v:=.tuple #[.agg #[.slice none 0 0,.slice none 0 0,.slice none 0 0],.int .i64 140]) (by simp [results,Tryz.results46,go_sem,HZF.out.2.1,HZF.out.2.2.1,HZF.out.2.2.2]) rfl ⟨rfl,HZF.out.1⟩
      | false =>
        by_cases hri:rightS L key LU=true
        ·rw [if_pos hri] at hca ⊢
         dsimp only at hca ⊢
         obtain ⟨SE,hSE⟩ : ∃ x:ByteArray,x=⟨(encSch L key LU).toArray⟩:=⟨_,rfl⟩
         obtain ⟨SB,hSB⟩ : ∃ x:ByteArray,x=⟨s.toArray⟩:=⟨_,rfl⟩
         rw [← hSE] at hca
         rw [← hSB] at hcb
         by_cases heq:encSch L key LU=s
         ·obtain rfl:R=some (L,key,LU):=HRE.out L key LU hri heq
          obtain rfl:SE=SB:=by rw [hSE,hSB,heq]
          have HFIN:Hid ((fun V=>ColsIn w.heap.size V (.slice A k c) L∧IntsIn w.heap.size V (.slice Ak key.length ck) key∧ListsIn w.heap.size V (.slice A2 4 c2) LU∧Bel w V∧V.cell? ⟨w.heap.size,0,none⟩=some (.slice A k c)∧V.cell? ⟨w.heap.size,1,none⟩=some (.slice Ak key.length ck)∧V.cell? ⟨w.heap.size,2,none⟩=some (.slice A2 4 c2)) (((w7.setCell ⟨w.heap.size,0,none⟩ (.slice A k c)).setCell ⟨w.heap.size,1,none⟩ (.slice Ak key.length ck)).setCell ⟨w.heap.size,2,none⟩ (.slice A2 4 c2))):=by
           have a0:=fun {b T s n:Nat} {v:Value} {xs:List Value} (V:World) (h:V.ownsRow b T s v n xs) (hb:br+1≤b) (p:Addr) (hp:p.block<br) (q:Value)=>own_set4 (p:=p) h (by omega) q
           have h0:(⟨w.heap.size,0,none⟩:Addr).block<br:=by dsimp only;omega
           have h1:(⟨w.heap.size,1,none⟩:Addr).block<br:=by dsimp only;omega
           have h2:(⟨w.heap.size,2,none⟩:Addr).block<br:=by dsimp only;omega
           have k0:(⟨w.heap.size,0,none⟩:Addr).block<br+1:=by dsimp only;omega
           have k1:(⟨w.heap.size,1,none⟩:Addr).block<br+1:=by dsimp only;omega
           have k2:(⟨w.heap.size,2,none⟩:Addr).block<br+1:=by dsimp only;omega
           have hK:=((E7.out.2.1.set_ 0 (.slice A k c)).set_ 1 (.slice Ak key.length ck)).set_ 2 (.slice A2 4 c2)
           exact ⟨cols_in (a0 _ (a0 _ (a0 _ OC7.out (Nat.le_refl _) _ h0 _) (Nat.le_refl _) _ h1 _) (Nat.le_refl _) _ h2 _) HLN.symm,
            ints_in (a0 _ (a0 _ (a0 _ OK7.out hbk _ h0 _) hbk _ h1 _) hbk _ h2 _),
            lists_in (a0 _ (a0 _ (a0 _ OU7.out.1 (Nat.le_refl _) _ h0 _) (Nat.le_refl _) _ h1 _) (Nat.le_refl _) _ h2 _) (((OU7.out.2.set k0 _).set k1 _).set k2 _),
            ((E7.out.1.setCell (Nat.le_refl _) _).setCell (Nat.le_refl _) _).setCell (Nat.le_refl _) _,(hK.cell 0).trans rfl,(hK.cell 1).trans rfl,(hK.cell 2).trans rfl⟩
          clear HBAD HNF HT2 hSE hSB heq hri OU7 OC7 OK7
          go_wp2
          obtain ⟨p0,p1,p2,p3,p4,p5,p6⟩:=HFIN.out
          refine bodyPost_ret (v:=.tuple #[.agg #[.slice A k c,.slice Ak key.length ck,.slice A2 4 c2],.int .i64 0]) (by simp [results,Tryz.results46,go_sem,p4,p5,p6]) rfl ⟨_,_,_,rfl,p0,p1,p2,p3⟩
         ·obtain rfl:R=none:=HBAD.out (fun h=>heq h.2.1)
          have hne:(SE.toList == SB.toList)=false:=by
           rw [hSE,hSB,str_beq]
           exact decide_eq_false fun e=>heq (by have:=congrArg ByteArray.data e;simpa using this)
          clear HBAD HNF HT2 hSE hSB heq hri
          go_wp2
          refine bodyPost_ret (v:=.tuple #[.agg #[.slice none 0 0,.slice none 0 0,.slice none 0 0],.int .i64 140]) (by simp [results,Tryz.results46,go_sem,HZF.out.2.1,HZF.out.2.2.1,HZF.out.2.2.2]) rfl ⟨rfl,HZF.out.1⟩
        ·rw [if_neg hri] at hca ⊢
         dsimp only at hca ⊢
         obtain rfl:R=none:=HBAD.out (fun h=>hri h.1)
         clear HBAD HNF HT2 hri
         go_wp2
         refine bodyPost_ret (v:=.tuple #[.agg #[.slice none 0 0,.slice none 0 0,.slice none 0 0],.int .i64 140]) (by simp [results,Tryz.results46,go_sem,HZF.out.2.1,HZF.out.2.2.1,HZF.out.2.2.2]) rfl ⟨rfl,HZF.out.1⟩
 ·intros V z7 z8 z9 z10 z11 z12 z13 z18 z19 z20 z21 z22 z23 z24 z25 z26 z27 z28 z29 z30 z31 z32 z33 z34 z35 z36 z37 z38 z39 z40 z41 z42 z43 z44 z45 z46 z47 z48 z49 z50 z51 z52 z53 z54 z55 z56 z57 z58 z59 z60 z61 z62 z63 z64 z65 z66 z67 z68 z69 z70 z71 z72 z73 z74 z75 z76 z77 z78 hh
  obtain ⟨hRn,⟨q0,q1,q2⟩,hbV⟩:=hh
  obtain rfl:=hRn
  refine zinBlockRet ?_
  dsimp only [Exit.then]
  refine bodyPost_ret (v:=.tuple #[.agg #[.slice none 0 0,.slice none 0 0,.slice none 0 0],.int .i64 140]) (by simp [results,Tryz.results46,go_sem,q0,q1,q2]) rfl ⟨rfl,hbV⟩
end
end Go.Proofs.YtnajjhgbombboaaGreatDoor
