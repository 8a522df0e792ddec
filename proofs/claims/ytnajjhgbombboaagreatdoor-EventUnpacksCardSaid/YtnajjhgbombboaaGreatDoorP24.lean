/-
  Texts behind the statement: part 24.
-/
import Derived.Test.YtnajjhgbombboaaGreatDoorP21
import Derived.Test.YtnajjhgbombboaaGreatDoorP23
set_option linter.unusedVariables false
set_option linter.unusedSimpArgs false
namespace Go.Proofs.YtnajjhgbombboaaGreatDoor
section
open Go.RowKit Go.Shelf Go.Lib
attribute [local go_sem] Oper.semAt_some
theorem infoP:(Tryz.prog.info? 68).map (fun i=>(i.zero,i.size,i.bytes))=some (some (.agg #[.string ⟨#[]⟩,.string ⟨#[]⟩]),2,32):=by kernel_rfl
theorem reads2 (w:World) (T:TypeId) (c0 c1:Value):Reads (w.alloc (.cells #[c0,c1] T)) (w.heap.size+1) 2 (some ⟨w.heap.size,0,none⟩) 1 [c0,c1]:=by
 have hb:=Blk.new w T #[c0,c1]
 refine ⟨rfl,fun _=>⟨_,rfl,Nat.lt_succ_self _,fun j x hx=>?_⟩⟩
 have e:(Addr.add ⟨w.heap.size,0,none⟩ j)=⟨w.heap.size,j,none⟩:=by unfold Addr.add;split <;> simp_all
 rw [e,hb.cell j]
 rw [List.getElem?_toArray]
 exact hx
theorem EvIn.names {n b m:Nat} {V V':World} {vc vk vu vo vn v:Value} {xs:List Value} {e:Ev} (h:EvIn n V vc vk vu vo vn (.slice none 0 0) e) (hns:e.ns=[]) (ho:V.ownsRow b 68 2 v m xs) (hg:V.grownBy V' v.ownBlock):EvIn n V' vc vk vu vo vn (.slice none 0 0) e:=by
 refine ⟨?_, ?_, ?_, ?_, ?_,by rw [hns];exact pairs_none n V'⟩
 ·obtain ⟨b,h1,h2⟩:=h.c;exact ⟨b,h1,zown_keep ho h2 (by decide) hg⟩
 ·obtain ⟨b,h1,h2⟩:=h.ky;exact ⟨b,h1,zown_keep ho h2 (by decide) hg⟩
 ·obtain ⟨b,m,us,h1,h2,h3,h4⟩:=h.u
  exact ⟨b,m,us,h1,h2,zown_keep ho h3 (by decide) hg,h4.1,fun j u l hu hl=>by obtain ⟨b',h5,h6⟩:=h4.2 j u l hu hl;exact ⟨b',h5,zown_keep ho h6 (by decide) hg⟩⟩
 ·obtain ⟨b,h1,h2⟩:=h.o;exact ⟨b,h1,zown_keep ho h2 (by decide) hg⟩
 ·obtain ⟨b,h1,h2⟩:=h.n;exact ⟨b,h1,zown_keep ho h2 (by decide) hg⟩
set_option maxRecDepth 100000 in
set_option maxHeartbeats 4000000 in
theorem eread_names (gx bt:Nat) (e:Ev) (vc vk vu vo vn:Value) (s:List UInt8) (hs:s.length≤1000000) (w:World) (h1:RS gx bt w w (evCells e.k e.t vc vk vu vo vn (.slice none 0 0)) s) (h2:EvIn (bt+1) w vc vk vu vo vn (.slice none 0 0) e) (hns:e.ns=[]) :
  Calls Tryz.prog 113 #[.pointer (some ⟨bt,0,none⟩),.pointer (some ⟨gx,0,none⟩)] w (ReadE 2 gx bt e s w):=by
 obtain ⟨Ac,cc,Ak,ck,Au,cu,Ao,co,An,cn,As,cs,rfl,rfl,rfl,rfl,rfl,-⟩:=h2.at_.opened
 have H1:=Lib.hid h1
 have H2:=Lib.hid h2
 have hr:readP 2 e s=match pNum 5 s with
  | none=>none
  | some (n,r)=>match rep pPair n r with
    | none=>none
    | some (l,r2)=>some ({ e with ns:=e.ns ++ l },r2):=rfl
 unfold ReadE
 obtain ⟨R,hR⟩ : ∃ R,R=readP 2 e s:=⟨_,rfl⟩
 rw [← hR]
 rw [hr] at hR
 have HN:=Lib.hid (enumber_any bt s hs 5 (by omega) w h1.tape)
 clear hr h2
 cases hx:pNum 5 s with
 | none =>
   rw [hx] at HN hR
   obtain rfl:R=none:=hR
   clear hx h1
   go_enter Tryz.func113,Tryz.ntmps113
   go_wp2_with fail
   refine HN.out.mono ?_
   rintro e1 w1 ⟨rfl,hg1⟩
   exact ⟨rfl,rfl,H1.out.keep.grown hg1 (fun k e hk=>by cases e;exact hk.2 rfl),_,_,_,_,_,_,_,_,H1.out.box.grown hg1 (fun e=>by have:=H1.out.lt;have:=Option.some.inj e;omega)⟩
 | some q =>
   obtain ⟨n,r0⟩:=q
   rw [hx] at HN hR
   dsimp only at hR
   obtain ⟨hr0,hn5⟩:=pNum_len hx
   have HR:=Lib.hid hR
   have hr0s:r0.length≤1000000:=by omega
   have hnI:(n:Int)<5:=by omega
   obtain ⟨i0,hi0,hz0,hz1,hz2⟩:=info_parts infoP
   have hp2:(0:Nat)<2:=by omega
   clear hx h1 hR hr0 hs
   go_enter Tryz.func113,Tryz.ntmps113
   go_wp2_with fail
   refine HN.out.mono ?_
   rintro e1 w1 ⟨rfl,ht1,hg1⟩
   have H3:=Lib.hid (H1.out.taped hg1 ht1)
   have H4:=Lib.hid (H2.out.keep (above_tape hg1 (Nat.lt_succ_self _)))
   clear ht1 hg1 HN H1 H2
   go_wp2
   go_loopw [7] (fun i wr=>∃ (k:Nat) (L:List (ByteArray×ByteArray)) (r:List UInt8) (A':Option Addr) (c':Nat),k≤n∧i = .int .i64 k∧r.length≤1000000∧Hid (rep pPair k r0=some (L,r)∧L.length=k) ∧
    Hid (RS gx bt w wr (evCells e.k e.t (.slice Ac e.c.length cc) (.slice Ak e.ky.length ck) (.slice Au e.u.length cu) (.slice Ao e.o.length co) (.slice An e.n.length cn) (.slice A' k c')) r∧EvIn (bt+1) wr (.slice Ac e.c.length cc) (.slice Ak e.ky.length ck) (.slice Au e.u.length cu) (.slice Ao e.o.length co) (.slice An e.n.length cn) (.slice none 0 0) e∧wr.ownsRow w.heap.size 68 2 (.slice A' k c') k (prows L))) (fun i _=>n - (intOf i).toNat)
   case atStart=>exact ⟨0,[],r0,none,0,Nat.zero_le _,rfl,hr0s,⟨rfl,rfl⟩,H3.out,H4.out,World.ownsRow_nil _ _ _ _⟩
   case round =>
    obtain ⟨k,L,r,A',c',hk,rfl,hrs,HL,HO⟩:=hrel
    by_cases hlt:k<n
    ·have hkI:(k:Int)<n:=by omega
     cases ha:rdText r with
     | none =>
       have HG:=Lib.hid (egotS_no bt r hrs ha wr HO.out.1.tape)
       obtain rfl:R=none:=by rw [HR.out,rep_bad (rep_no HL.out.1 (show pPair r=none by unfold pPair;rw [ha])) (show k+1≤n by omega)]
       clear ha HL
       go_wp2_with fail
       refine HG.out.mono ?_
       rintro e1 w4 ⟨rfl,hg4⟩
       exact ⟨rfl,rfl,HO.out.1.keep.grown hg4 (fun k e hk=>by cases e;exact hk.2 rfl),_,_,_,_,_,_,_,_,HO.out.1.box.grown hg4 (fun e=>by have:=HO.out.1.lt;have:=Option.some.inj e;omega)⟩
     | some qa =>
       obtain ⟨a,m⟩:=qa
       have HG:=Lib.hid (egotS_yes bt r hrs a m ha wr HO.out.1.tape)
       unfold strV at HG
       have hr1:(r.drop m).length≤1000000:=by rw [List.length_drop];omega
       cases hb:rdText (r.drop m) with
       | none =>
         have HG2:=Lib.hid (fun V (hV:TapeAt V bt (r.drop m))=>egotS_no bt (r.drop m) hr1 hb V hV)
         obtain rfl:R=none:=by rw [HR.out,rep_bad (rep_no HL.out.1 (show pPair r=none by unfold pPair;rw [ha];dsimp only;rw [hb])) (show k+1≤n by omega)]
         clear ha hb HL hr1
         go_wp2_with fail
         refine HG.out.mono ?_
         rintro e1 w4 ⟨rfl,ht4,hg4⟩
         have H5:=Lib.hid (HO.out.1.taped hg4 ht4)
         have x7:w4.cell? ⟨gx,7,none⟩=some (.slice A' k c'):=H5.out.box.cell 7
         clear ht4 hg4 HG
         go_wp2_with fail
         refine wp_region_held_drew (S:=(fun _:World=>True)) (by kernel_rfl) ?_ (fun hHr1_0=>?_)
         ·(try dsimp only);(first | done | trivial)
         refine tk 0 ?_
         refine tk 1 ?_
         refine tk 2 ?_
         refine tk 3 ?_
         refine tk 5 ?_
         refine tk 6 ?_
         refine wpAnyH_ready (rs:=[4,7]) (by kernel_rfl) (by simp) ?_
         refine AllReadyH.cons (o:=_) rfl (fun K hK=>?_) (AllReadyH.cons (o:=_) rfl (fun K hK=>?_) (AllReadyH.nil))
         ·go_simp
          refine hK.out _ _ ?_ (fun hHr1_1=>?_)
          ·(try dsimp only);(first | done | trivial)
          clear hK K hHr1_0
          try simp only [tkp0,tkp1,tkp2,tkp3,tkp4,tkp5,tkp6,tkp7]
          refine rd1 7 (fun K hK=>?_)
          go_simp
          (go_at_call 51;refine (HG2.out _ (H5.out.tape.bel (Bel.refl w4).drew)).mono ?_;rintro e5 w5 ⟨rfl,hg5⟩;exact ⟨rfl,rfl,H5.out.keep.grown (grown_trans ((Bel.refl w4).drew.grown _) hg5) (fun k e hk=>by cases e;exact hk.2 rfl),_,_,_,_,_,_,_,_,H5.out.box.grown (grown_trans ((Bel.refl w4).drew.grown _) hg5) (fun e=>by have:=H5.out.lt;have:=Option.some.inj e;omega)⟩)
         ·go_simp
          (go_at_call 51;refine (HG2.out _ (H5.out.tape.bel (Bel.refl w4).drew)).mono ?_;rintro e5 w5 ⟨rfl,hg5⟩;exact ⟨rfl,rfl,H5.out.keep.grown (grown_trans ((Bel.refl w4).drew.grown _) hg5) (fun k e hk=>by cases e;exact hk.2 rfl),_,_,_,_,_,_,_,_,H5.out.box.grown (grown_trans ((Bel.refl w4).drew.grown _) hg5) (fun e=>by have:=H5.out.lt;have:=Option.some.inj e;omega)⟩)
       | some qb =>
         obtain ⟨b,m2⟩:=qb
         have HG2:=Lib.hid (fun V (hV:TapeAt V bt (r.drop m))=>egotS_yes bt (r.drop m) hr1 b m2 hb V hV)
         unfold strV at HG2
         have HTK:=Lib.hid (rep_yes HL.out.1 (show pPair r=some ((⟨a.toArray⟩,⟨b.toArray⟩),(r.drop m).drop m2) by unfold pPair;rw [ha];dsimp only;rw [hb]))
         have hr2:((r.drop m).drop m2).length≤1000000:=by rw [List.length_drop];omega
         have hLL:(L ++ [((⟨a.toArray⟩:ByteArray),(⟨b.toArray⟩:ByteArray))]).length=k+1:=by rw [List.length_append,HL.out.2];rfl
         have HLL:=Lib.hid hLL
         clear ha hb hr1 hLL
         go_wp2_with fail
         refine HG.out.mono ?_
         rintro e1 w4 ⟨rfl,ht4,hg4⟩
         have H5:=Lib.hid (HO.out.1.taped hg4 ht4)
         have HE5:=Lib.hid (HO.out.2.1.keep (above_tape hg4 (Nat.lt_succ_self _)))
         have HW5:=Lib.hid (ownsRow_grown HO.out.2.2 hg4 H5.out.old)
         have x7:w4.cell? ⟨gx,7,none⟩=some (.slice A' k c'):=H5.out.box.cell 7
         clear ht4 hg4 HG HO
         have hone : ∀ u ∈ [(.string ⟨a.toArray⟩:Value),.string ⟨b.toArray⟩],u.oneCell'=true:=fun u hu=>by
          simp at hu
          rcases hu with rfl | rfl <;> rfl
         have h63:k+1≤maxLen:=by unfold maxLen;omega
         have hby:(k+1) * 32≤140737488355328:=by omega
         have HP:=Lib.hid (fun (V':World) (ht:TapeAt V' bt ((r.drop m).drop m2)) (hg:w4.drew.grownBy V' (some bt)) =>
          have hg':=grown_trans ((Bel.refl w4).drew.grown (some bt)) hg
          have hal:=(Bel.refl V').alloc (.cells #[.string ⟨a.toArray⟩,.string ⟨b.toArray⟩] 68)
          have q1:=H5.out.taped hg' ht
          have q2:=HE5.out.keep (above_tape hg' (Nat.lt_succ_self _))
          have q3:=ownsRow_grown HW5.out hg' H5.out.old
          (And.intro q1 (And.intro (q1.bel hal) (And.intro (q2.keep (above_bel (n:=bt+1) hal)) (ownsRow_bel q3 hal)))))
         go_wp2_with fail
         refine wp_region_noPanic ?_
         refine wp_region_held_drew (S:=(fun _:World=>True)) (by kernel_rfl) ?_ (fun hHr2_0=>?_)
         ·(try dsimp only);(first | done | trivial)
         refine tk 0 ?_
         refine tk 1 ?_
         refine tk 2 ?_
         refine tk 3 ?_
         refine tk 5 ?_
         refine tk 6 ?_
         refine wpAnyH_ready (rs:=[4,7]) (by kernel_rfl) (by simp) ?_
         refine AllReadyH.cons (o:=_) rfl (fun K hK=>?_) (AllReadyH.cons (o:=_) rfl (fun K hK=>?_) (AllReadyH.nil))
         ·go_simp
          refine hK.out _ _ ?_ (fun hHr2_1=>?_)
          ·(try dsimp only);(first | done | trivial)
          clear hK K hHr2_0
          try simp only [tkp0,tkp1,tkp2,tkp3,tkp4,tkp5,tkp6,tkp7]
          refine rd1 7 (fun K hK=>?_)
          go_simp
          (go_at_call 51;refine (HG2.out _ (H5.out.tape.bel (Bel.refl w4).drew)).mono ?_;rintro e5 w5 ⟨rfl,ht5,hg5⟩;have H7:=Lib.hid (HP.out w5 ht5 hg5);have z7:w5.cell? ⟨gx,7,none⟩=some (.slice A' k c'):=H7.out.1.box.cell 7;have hgl:gx<w5.heap.size:=H7.out.1.box.lt;have HX:=Lib.hid (reads2 w5 68 (.string ⟨a.toArray⟩) (.string ⟨b.toArray⟩));have HS1:Hid (w.heap.size≤(w5.alloc (.cells #[.string ⟨a.toArray⟩,.string ⟨b.toArray⟩] 68)).heap.size):=Lib.hid (H7.out.2.1.keep.size);clear ht5 hg5)
          try (go_wp2_with fail)
          refine hK.out _ _ ?_ (fun hHr2_2=>?_)
          ·(try dsimp only);(first | done | trivial)
          clear hK K hHr2_1
          try simp only [tkp0,tkp1,tkp2,tkp3,tkp4,tkp5,tkp6,tkp7]
          refine tk 8 ?_
          refine rd1 9 (fun K hK=>?_)
          go_simp
          refine hK.out _ _ ?_ (fun hHr2_3=>?_)
          ·(try dsimp only);(first | done | trivial)
          clear hK K hHr2_2
          try simp only [tkp0,tkp1,tkp2,tkp3,tkp4,tkp5,tkp6,tkp7]
          refine rd1 10 (fun K hK=>?_)
          rw [if_pos (by first | rfl | kernel_rfl)]
          (refine wp_append_any _ (.tmp 15) (.tmp 20) 29 rfl w.heap.size 68 i0 _ 2 32 Tryz.underlying29 hi0 hz0 hz1 hz2 rfl hp2 (.slice A' k c') k (prows L) (by rfl) H7.out.2.2.2 _ (some ⟨w5.heap.size,0,none⟩) 1 1 _ (by rfl) HX.out hone h63 hby HS1.out ?_;intro v9 w9 hown9 hg9 hat9;obtain ⟨A9,c9,rfl⟩:=row_any hown9;have hlt9:=fun j e=>(H7.out.2.2.2.lt j e).1;have H9:=Lib.hid (H7.out.2.1.own hg9 hlt9);have HE9:=Lib.hid (H7.out.2.2.1.names hns H7.out.2.2.2 hg9);have HW9:Hid (w9.ownsRow w.heap.size 68 2 (.slice A9 (k+1) c9) (k+1) (prows (L ++ [((⟨a.toArray⟩:ByteArray),(⟨b.toArray⟩:ByteArray))]))):=Lib.hid (by rw [prows_append];exact hown9);have y7:w9.cell? ⟨gx,7,none⟩=some (.slice A' k c'):=H9.out.box.cell 7;have yf:w9.frozen? ⟨gx,7,none⟩=false:=H9.out.box.frozen 7;clear hown9 hg9 hat9 hlt9)
          refine hK.out _ _ ?_ (fun hHr2_4=>?_)
          ·(try dsimp only);(first | done | trivial)
          clear hK K hHr2_3
          try simp only [tkp0,tkp1,tkp2,tkp3,tkp4,tkp5,tkp6,tkp7]
          refine tk 11 ?_
          refine tk 12 ?_
          refine rd1 13 (fun K hK=>?_)
          go_simp
          refine hK.out _ _ ?_ (fun hHr2_5=>?_)
          ·(try dsimp only);(first | done | trivial)
          clear hK K hHr2_4
          try simp only [tkp0,tkp1,tkp2,tkp3,tkp4,tkp5,tkp6,tkp7]
          refine wpAnyH_done (by kernel_rfl) ?_ _
          refine NoPanic.normal ?_
          (go_wp2;go_roundw;(case rel=>exact ⟨k+1,_,_,A9,c9,by omega,by go_num,hr2,⟨HTK.out,HLL.out⟩,H9.out.set 7 (.slice A9 (k+1) c9) (fun c e=>by cases e),HE9.out.keep (above_set (gx:=gx) (n:=bt+1) (by have:=H3.out.lt;omega)),own_set4 HW9.out (p:=⟨gx,7,none⟩) (by have:=H3.out.lt;have:=H3.out.old;show gx<_;omega) _⟩);(case measure=>simp [intOf];omega))
         ·go_simp
          (go_at_call 51;refine (HG2.out _ (H5.out.tape.bel (Bel.refl w4).drew)).mono ?_;rintro e5 w5 ⟨rfl,ht5,hg5⟩;have H7:=Lib.hid (HP.out w5 ht5 hg5);have z7:w5.cell? ⟨gx,7,none⟩=some (.slice A' k c'):=H7.out.1.box.cell 7;have hgl:gx<w5.heap.size:=H7.out.1.box.lt;have HX:=Lib.hid (reads2 w5 68 (.string ⟨a.toArray⟩) (.string ⟨b.toArray⟩));have HS1:Hid (w.heap.size≤(w5.alloc (.cells #[.string ⟨a.toArray⟩,.string ⟨b.toArray⟩] 68)).heap.size):=Lib.hid (H7.out.2.1.keep.size);clear ht5 hg5)
          try (go_wp2_with fail)
          refine hK.out _ _ ?_ (fun hHr2_1=>?_)
          ·(try dsimp only);(first | done | trivial)
          clear hK K hHr2_0
          try simp only [tkp0,tkp1,tkp2,tkp3,tkp4,tkp5,tkp6,tkp7]
          refine tk 8 ?_
          refine wpAnyH_ready (rs:=[4,9]) (by kernel_rfl) (by simp) ?_
          refine AllReadyH.cons (o:=_) rfl (fun K hK=>?_) (AllReadyH.cons (o:=_) rfl (fun K hK=>?_) (AllReadyH.nil))
          ·go_simp
           refine hK.out _ _ ?_ (fun hHr2_2=>?_)
           ·(try dsimp only);(first | done | trivial)
           clear hK K hHr2_1
           try simp only [tkp0,tkp1,tkp2,tkp3,tkp4,tkp5,tkp6,tkp7]
           refine rd1 9 (fun K hK=>?_)
           go_simp
           refine hK.out _ _ ?_ (fun hHr2_3=>?_)
           ·(try dsimp only);(first | done | trivial)
           clear hK K hHr2_2
           try simp only [tkp0,tkp1,tkp2,tkp3,tkp4,tkp5,tkp6,tkp7]
           refine rd1 10 (fun K hK=>?_)
           rw [if_pos (by first | rfl | kernel_rfl)]
           (refine wp_append_any _ (.tmp 15) (.tmp 20) 29 rfl w.heap.size 68 i0 _ 2 32 Tryz.underlying29 hi0 hz0 hz1 hz2 rfl hp2 (.slice A' k c') k (prows L) (by rfl) H7.out.2.2.2 _ (some ⟨w5.heap.size,0,none⟩) 1 1 _ (by rfl) HX.out hone h63 hby HS1.out ?_;intro v9 w9 hown9 hg9 hat9;obtain ⟨A9,c9,rfl⟩:=row_any hown9;have hlt9:=fun j e=>(H7.out.2.2.2.lt j e).1;have H9:=Lib.hid (H7.out.2.1.own hg9 hlt9);have HE9:=Lib.hid (H7.out.2.2.1.names hns H7.out.2.2.2 hg9);have HW9:Hid (w9.ownsRow w.heap.size 68 2 (.slice A9 (k+1) c9) (k+1) (prows (L ++ [((⟨a.toArray⟩:ByteArray),(⟨b.toArray⟩:ByteArray))]))):=Lib.hid (by rw [prows_append];exact hown9);have y7:w9.cell? ⟨gx,7,none⟩=some (.slice A' k c'):=H9.out.box.cell 7;have yf:w9.frozen? ⟨gx,7,none⟩=false:=H9.out.box.frozen 7;clear hown9 hg9 hat9 hlt9)
           refine hK.out _ _ ?_ (fun hHr2_4=>?_)
           ·(try dsimp only);(first | done | trivial)
           clear hK K hHr2_3
           try simp only [tkp0,tkp1,tkp2,tkp3,tkp4,tkp5,tkp6,tkp7]
           refine tk 11 ?_
           refine tk 12 ?_
           refine rd1 13 (fun K hK=>?_)
           go_simp
           refine hK.out _ _ ?_ (fun hHr2_5=>?_)
           ·(try dsimp only);(first | done | trivial)
           clear hK K hHr2_4
           try simp only [tkp0,tkp1,tkp2,tkp3,tkp4,tkp5,tkp6,tkp7]
           refine wpAnyH_done (by kernel_rfl) ?_ _
           refine NoPanic.normal ?_
           (go_wp2;go_roundw;(case rel=>exact ⟨k+1,_,_,A9,c9,by omega,by go_num,hr2,⟨HTK.out,HLL.out⟩,H9.out.set 7 (.slice A9 (k+1) c9) (fun c e=>by cases e),HE9.out.keep (above_set (gx:=gx) (n:=bt+1) (by have:=H3.out.lt;omega)),own_set4 HW9.out (p:=⟨gx,7,none⟩) (by have:=H3.out.lt;have:=H3.out.old;show gx<_;omega) _⟩);(case measure=>simp [intOf];omega))
          ·go_simp
           refine hK.out _ _ ?_ (fun hHr2_2=>?_)
           ·(try dsimp only);(first | done | trivial)
           clear hK K hHr2_1
           try simp only [tkp0,tkp1,tkp2,tkp3,tkp4,tkp5,tkp6,tkp7]
           refine rd1 4 (fun K hK=>?_)
           go_simp
           refine hK.out _ _ ?_ (fun hHr2_3=>?_)
           ·(try dsimp only);(first | done | trivial)
           clear hK K hHr2_2
           try simp only [tkp0,tkp1,tkp2,tkp3,tkp4,tkp5,tkp6,tkp7]
           refine rd1 10 (fun K hK=>?_)
           rw [if_pos (by first | rfl | kernel_rfl)]
           (refine wp_append_any _ (.tmp 15) (.tmp 20) 29 rfl w.heap.size 68 i0 _ 2 32 Tryz.underlying29 hi0 hz0 hz1 hz2 rfl hp2 (.slice A' k c') k (prows L) (by rfl) H7.out.2.2.2 _ (some ⟨w5.heap.size,0,none⟩) 1 1 _ (by rfl) HX.out hone h63 hby HS1.out ?_;intro v9 w9 hown9 hg9 hat9;obtain ⟨A9,c9,rfl⟩:=row_any hown9;have hlt9:=fun j e=>(H7.out.2.2.2.lt j e).1;have H9:=Lib.hid (H7.out.2.1.own hg9 hlt9);have HE9:=Lib.hid (H7.out.2.2.1.names hns H7.out.2.2.2 hg9);have HW9:Hid (w9.ownsRow w.heap.size 68 2 (.slice A9 (k+1) c9) (k+1) (prows (L ++ [((⟨a.toArray⟩:ByteArray),(⟨b.toArray⟩:ByteArray))]))):=Lib.hid (by rw [prows_append];exact hown9);have y7:w9.cell? ⟨gx,7,none⟩=some (.slice A' k c'):=H9.out.box.cell 7;have yf:w9.frozen? ⟨gx,7,none⟩=false:=H9.out.box.frozen 7;clear hown9 hg9 hat9 hlt9)
           refine hK.out _ _ ?_ (fun hHr2_4=>?_)
           ·(try dsimp only);(first | done | trivial)
           clear hK K hHr2_3
           try simp only [tkp0,tkp1,tkp2,tkp3,tkp4,tkp5,tkp6,tkp7]
           refine tk 11 ?_
           refine tk 12 ?_
           refine rd1 13 (fun K hK=>?_)
           go_simp
           refine hK.out _ _ ?_ (fun hHr2_5=>?_)
           ·(try dsimp only);(first | done | trivial)
           clear hK K hHr2_4
           try simp only [tkp0,tkp1,tkp2,tkp3,tkp4,tkp5,tkp6,tkp7]
           refine wpAnyH_done (by kernel_rfl) ?_ _
           refine NoPanic.normal ?_
           (go_wp2;go_roundw;(case rel=>exact ⟨k+1,_,_,A9,c9,by omega,by go_num,hr2,⟨HTK.out,HLL.out⟩,H9.out.set 7 (.slice A9 (k+1) c9) (fun c e=>by cases e),HE9.out.keep (above_set (gx:=gx) (n:=bt+1) (by have:=H3.out.lt;omega)),own_set4 HW9.out (p:=⟨gx,7,none⟩) (by have:=H3.out.lt;have:=H3.out.old;show gx<_;omega) _⟩);(case measure=>simp [intOf];omega))
    ·obtain rfl:k=n:=by omega
     obtain rfl:R=some ({ e with ns:=e.ns ++ L },r):=by rw [HR.out,HL.out.1]
     have HL2:=Lib.hid HL.out.2
     clear hlt hk HL HR
     go_wp2
     go_end0
     refine ⟨rfl,_,_,_,_,_,_,HO.out.1,HO.out.2.1.c,HO.out.2.1.ky,HO.out.2.1.u,HO.out.2.1.o,HO.out.2.1.n,⟨w.heap.size,H3.out.old, ?_⟩⟩
     have h:=HO.out.2.2
     first
      | (show wr.ownsRow _ _ _ _ (e.ns ++ L).length (prows (e.ns ++ L));rw [show e.ns ++ L=L by rw [hns];rfl,HL2.out];exact h)
      | (show wr.ownsRow _ _ _ _ L.length (prows L);rw [HL2.out];exact h)
end
section
open Go.RowKit Go.Shelf Go.Lib
attribute [local go_sem] Oper.semAt_some
def mayFn (p:Nat):Nat:=if p=0 then 99 else if p=1 then 103 else if p=2 then 109 else 91
def layFn (p:Nat):Nat:=if p=0 then 101 else if p=1 then 105 else if p=2 then 112 else 95
def readFn (p:Nat):Nat:=if p=0 then 102 else if p=1 then 107 else if p=2 then 113 else 97
def pLb (bo bn p:Nat):Array Value:=if p=3 then #[.pointer (some ⟨bo,0,none⟩)] else if p=4 then #[.pointer (some ⟨bn,0,none⟩)] else #[]
theorem partC_form (bo bn:Nat) {p:Nat} (h:p≤4):partC bo bn p=[.func (.func (mayFn p)) #[] (pLb bo bn p),.func (.func (layFn p)) #[] (pLb bo bn p),.func (.func (readFn p)) #[] (pLb bo bn p)]:=by
 have hc:p=0 ∨ p=1 ∨ p=2 ∨ p=3 ∨ p=4:=by omega
 rcases hc with rfl | rfl | rfl | rfl | rfl <;> rfl
theorem partC_three (bo bn p:Nat) : ∃ f0 f1 f2,partC bo bn p=[f0,f1,f2]:=by
 unfold partC
 split
 ·exact ⟨_,_,_,rfl⟩
 ·split
  ·exact ⟨_,_,_,rfl⟩
  ·split
   ·exact ⟨_,_,_,rfl⟩
   ·split <;> exact ⟨_,_,_,rfl⟩
theorem partC_len (bo bn p:Nat):(partC bo bn p).length=3:=by obtain ⟨f0,f1,f2,h⟩:=partC_three bo bn p;rw [h];rfl
theorem mayFn_enters {p:Nat} (h:p≤4) : ∀ args w,(callFunc (mayFn p) args).run Tryz.prog w = .ok (.enter (mayFn p) args) w:=by
 have hc:p=0 ∨ p=1 ∨ p=2 ∨ p=3 ∨ p=4:=by omega
 rcases hc with rfl | rfl | rfl | rfl | rfl
 ·exact enters_of Tryz.func99 (by kernel_rfl) rfl
 ·exact enters_of Tryz.func103 (by kernel_rfl) rfl
 ·exact enters_of Tryz.func109 (by kernel_rfl) rfl
 ·exact enters_of Tryz.func91 (by kernel_rfl) rfl
 ·exact enters_of Tryz.func91 (by kernel_rfl) rfl
theorem layFn_enters {p:Nat} (h:p≤4) : ∀ args w,(callFunc (layFn p) args).run Tryz.prog w = .ok (.enter (layFn p) args) w:=by
 have hc:p=0 ∨ p=1 ∨ p=2 ∨ p=3 ∨ p=4:=by omega
 rcases hc with rfl | rfl | rfl | rfl | rfl
 ·exact enters_of Tryz.func101 (by kernel_rfl) rfl
 ·exact enters_of Tryz.func105 (by kernel_rfl) rfl
 ·exact enters_of Tryz.func112 (by kernel_rfl) rfl
 ·exact enters_of Tryz.func95 (by kernel_rfl) rfl
 ·exact enters_of Tryz.func95 (by kernel_rfl) rfl
theorem readFn_enters {p:Nat} (h:p≤4) : ∀ args w,(callFunc (readFn p) args).run Tryz.prog w = .ok (.enter (readFn p) args) w:=by
 have hc:p=0 ∨ p=1 ∨ p=2 ∨ p=3 ∨ p=4:=by omega
 rcases hc with rfl | rfl | rfl | rfl | rfl
 ·exact enters_of Tryz.func102 (by kernel_rfl) rfl
 ·exact enters_of Tryz.func107 (by kernel_rfl) rfl
 ·exact enters_of Tryz.func113 (by kernel_rfl) rfl
 ·exact enters_of Tryz.func97 (by kernel_rfl) rfl
 ·exact enters_of Tryz.func97 (by kernel_rfl) rfl
def Boxes (bo bn:Nat) (w:World):Prop:=Blk w bo 115 #[fnV 59]∧Blk w bn 115 #[fnV 60]
theorem Boxes.bel {bo bn:Nat} {w w':World} (h:Boxes bo bn w) (hb:Bel w w'):Boxes bo bn w':=⟨h.1.below hb h.1.lt,h.2.below hb h.2.lt⟩
theorem emay_any (bo bn p:Nat) (hp:p≤4) (e:Ev) (vc vk vu vo vn vs:Value) (w:World) (hg:ErrType w) (hb:Boxes bo bn w) (h:EvAt w vc vk vu vo vn vs e) :
  Calls Tryz.prog (mayFn p) (#[evV e.k e.t vc vk vu vo vn vs] ++ pLb bo bn p) w fun en w'=>en = .returned (.bool (mayP e p))∧Bel w w':=by
 have hc:p=0 ∨ p=1 ∨ p=2 ∨ p=3 ∨ p=4:=by omega
 rcases hc with rfl | rfl | rfl | rfl | rfl
 ·exact emay_table e vc vk vu vo vn vs w hg h
 ·exact emay_shape e vc vk vu vo vn vs w h
 ·exact emay_names e vc vk vu vo vn vs w hg h
 ·exact emay_old bo e vc vk vu vo vn vs w hb.1 h
 ·exact emay_new bn e vc vk vu vo vn vs w hb.2 h
theorem elay_any (bo bn p:Nat) (hp:p≤4) (e:Ev) (vc vk vu vo vn vs:Value) (w:World) (hb:Boxes bo bn w) (h:EvAt w vc vk vu vo vn vs e) (hm:mayP e p=true) (hw:e.Wf) :
  Calls Tryz.prog (layFn p) (#[evV e.k e.t vc vk vu vo vn vs] ++ pLb bo bn p) w (GivesB (layP e p) w):=by
 have hc:p=0 ∨ p=1 ∨ p=2 ∨ p=3 ∨ p=4:=by omega
 rcases hc with rfl | rfl | rfl | rfl | rfl
 ·exact elay_table e vc vk vu vo vn vs w (by have hm:namedB e.t=true:=hm;have:=(named_size hm).2;omega) h
 ·exact elay_shape e vc vk vu vo vn vs w hm h
 ·exact elay_names e vc vk vu vo vn vs w hm h
 ·have hm:rowB e.o=true:=hm
  have hr:=rowB_parts hm
  exact elay_old bo e vc vk vu vo vn vs w hb.1 (fun x hx=>⟨hr.2.2 x hx,hw x (List.mem_append_left _ hx)⟩) hr.2.1 h
 ·have hm:rowB e.n=true:=hm
  have hr:=rowB_parts hm
  exact elay_new bn e vc vk vu vo vn vs w hb.2 (fun x hx=>⟨hr.2.2 x hx,hw x (List.mem_append_right _ hx)⟩) hr.2.1 h
theorem layP_len {e:Ev} {p:Nat} (hm:mayP e p=true) (hw:e.Wf):(layP e p).length≤2000:=by
 have hT : ∀ s:List UInt8,s.length≤1900→(textB s).length≤1909:=fun s hs=>by
  unfold textB
  rw [List.length_append]
  have:=numB_9 (n:=s.length) (by omega)
  omega
 unfold mayP at hm
 unfold layP
 by_cases h0:p=0
 ·rw [if_pos h0] at hm ⊢
  have h1:=(named_size hm).2
  have:=hT e.t.data.toList (by rw [blen];omega)
  omega
 rw [if_neg h0] at hm ⊢
 by_cases h1:p=1
 ·rw [if_pos h1] at hm ⊢
  have:=hT (encSch e.c e.ky e.u) (by have:=encSch_small hm;omega)
  omega
 rw [if_neg h1] at hm ⊢
 by_cases h2:p=2
 ·rw [if_pos h2] at hm ⊢
  obtain ⟨n1,n4,hn⟩:=namesB_parts hm
  have hP : ∀ l:List (ByteArray×ByteArray),(∀ p ∈ l,p.1.size≤24∧p.2.size≤24)→(encPairs l).length≤66 * l.length:=by
   intro l
   induction l with
   | nil=>intro _;simp [encPairs]
   | cons p l ih =>
     intro h
     obtain ⟨h1,h2⟩:=h p (List.mem_cons_self ..)
     have:=ih (fun q hq=>h q (List.mem_cons_of_mem _ hq))
     have a1:=textB_len h1
     have a2:=textB_len h2
     unfold encPairs encPair
     simp only [List.length_append,List.length_cons]
     omega
  have:=hP e.ns (fun p hp=>⟨(named_size (hn p hp).1).2,(named_size (hn p hp).2).2⟩)
  have h9:=numB_9 (n:=e.ns.length) (by omega)
  rw [List.length_append]
  omega
 rw [if_neg h2] at hm ⊢
 by_cases h3:p=3
 ·rw [if_pos h3] at hm ⊢
  have:=hT (keyL e.o) (by have:=rowB_len hm (fun y hy=>hw y (List.mem_append_left _ hy));omega)
  omega
 rw [if_neg h3] at hm ⊢
 have:=hT (keyL e.n) (by have:=rowB_len hm (fun y hy=>hw y (List.mem_append_right _ hy));omega)
 omega
def PartsAt (bo bn:Nat) (w:World) (v:Value) (l:List Nat):Prop:=∃ g,v = .slice (some ⟨g,0,none⟩) l.length l.length∧l.length≤maxLen∧Blk w g 76 (l.flatMap (partC bo bn)).toArray
theorem PartsAt.bel {bo bn:Nat} {w w':World} {v:Value} {l:List Nat} (h:PartsAt bo bn w v l) (hb:Bel w w'):PartsAt bo bn w' v l:=by obtain ⟨g,h1,h2,h3⟩:=h;exact ⟨g,h1,h2,h3.below hb h3.lt⟩
theorem parts_at (bo bn:Nat) : ∀ (l:List Nat) (k j y:Nat),l[k]? = some y→j<3→(l.flatMap (partC bo bn))[k * 3+j]? = (partC bo bn y)[j]?
 | [],k,j,y,h,hj=>by simp at h
 | p :: l,0,j,y,h,hj=>by
   simp at h
   subst h
   show (partC bo bn p ++ l.flatMap (partC bo bn))[0 * 3+j]? = _
   rw [Nat.zero_mul,Nat.zero_add,List.getElem?_append_left (by rw [partC_len];omega)]
 | p :: l,k+1,j,y,h,hj=>by
   have h:l[k]? = some y:=h
   show (partC bo bn p ++ l.flatMap (partC bo bn))[(k+1) * 3+j]? = _
   rw [List.getElem?_append_right (by rw [partC_len];omega)]
   have e:(k+1) * 3+j - (partC bo bn p).length=k * 3+j:=by rw [partC_len];omega
   rw [e]
   exact parts_at bo bn l k j y h hj
theorem parts_cell {bo bn g k y:Nat} {w:World} {l:List Nat} {f0 f1 f2:Value} (hB:Blk w g 76 (l.flatMap (partC bo bn)).toArray) (hy:l[k]? = some y) (hf:partC bo bn y=[f0,f1,f2]) :
  w.cell? ⟨g,k * 3,none⟩=some f0∧w.cell? ⟨g,k * 3+1,none⟩=some f1∧w.cell? ⟨g,k * 3+2,none⟩=some f2:=by
 have h : ∀ j,j<3→w.cell? ⟨g,k * 3+j,none⟩=[f0,f1,f2][j]?:=fun j hj=>by rw [hB.cell,List.getElem?_toArray,parts_at bo bn l k j y hy hj,hf]
 exact ⟨h 0 (by omega),h 1 (by omega),h 2 (by omega)⟩
set_option maxHeartbeats 2000000 in
theorem slIndexFuncPart_any (gf:Nat) (lb:Array Value) (eg : ∀ args w,(callFunc gf args).run Tryz.prog w = .ok (.enter gf args) w) (bo bn:Nat) (p:Nat→Bool) (v:Value) (l:List Nat) (w:World) (h:PartsAt bo bn w v l)
  (hp : ∀ W,Bel w W → ∀ x ∈ l,Calls Tryz.prog gf (#[pvOf bo bn x] ++ lb) W fun e w'=>e = .returned (.bool (p x))∧Bel W w') :
  Calls Tryz.prog 72 #[v,.func (.func gf) #[] lb] w fun e w'=>(∃ i:Int,e = .returned (.int .i64 i)∧(0≤i ↔ l.any p=true))∧Bel w w':=by
 have HV:=Lib.hid h
 obtain ⟨g,rfl,hm,hB⟩:=h
 have HP:=Lib.hid hp
 have hlI:(l.length:Int)≤9223372036854775807:=by unfold maxLen at hm;omega
 have HR:=Lib.hid hB
 clear hB hm hp
 go_enter Tryz.func72,Tryz.ntmps72
 go_wp2
 go_loopw [8] (fun i wr=>∃ k:Nat,k≤l.length∧i = .int .i64 k∧Hid (Bel w wr)∧Hid ((l.take k).any p=false)) (fun i _=>l.length - (intOf i).toNat)
 case atStart=>exact ⟨0,Nat.zero_le _,rfl,Bel.refl w,by show _=_;simp⟩
 case round =>
  obtain ⟨k,hk,rfl,HB,HT⟩:=hrel
  by_cases hlt:k<l.length
  ·obtain ⟨y,hy⟩ : ∃ y,l[k]? = some y:=⟨_,List.getElem?_eq_getElem hlt⟩
   obtain ⟨f0,f1,f2,hf⟩:=partC_three bo bn y
   have q:=parts_cell HR.out hy hf
   have hc0:=HB.out.c q.1
   have hc1:=HB.out.c q.2.1
   have hc2:=HB.out.c q.2.2
   have hkI:(k:Int)<l.length:=by omega
   have hmem:y ∈ l:=List.mem_of_getElem? hy
   have HC:=Lib.hid (HP.out wr HB.out y hmem)
   unfold pvOf at HC
   rw [hf] at HC
   have HNX:Hid (p y=false→(l.take (k+1)).any p=false):=fun e=>by
    rw [List.take_add_one,hy,List.any_append,HT.out]
    simp [e]
   have HYES:Hid (p y=true→l.any p=true):=fun e=>List.any_eq_true.2 ⟨y,hmem,e⟩
   clear hy hmem q hf
   cases hpy:p y with
   | true =>
     rw [hpy] at HC HYES
     clear hpy
     go_wp2_with (go_at_fn gf;refine HC.out.mono ?_;rintro e w4 ⟨rfl,hb4⟩)
     go_ret
     exact ⟨⟨(k:Int),rfl,by constructor <;> intro _ <;> first | exact HYES.out rfl | exact HYES.out trivial | omega⟩,HB.out.then_ hb4⟩
   | false =>
     rw [hpy] at HC HNX
     clear hpy
     go_wp2_with (go_at_fn gf;refine HC.out.mono ?_;rintro e w4 ⟨rfl,hb4⟩)
     go_roundw
     case rel=>exact ⟨k+1,by omega,by go_num,HB.out.then_ hb4,by first | exact HNX.out rfl | exact HNX.out trivial⟩
     case measure=>simp [intOf];omega
  ·obtain rfl:k=l.length:=by omega
   have HN:Hid (l.any p=false):=by show _=_;have:=HT.out;rwa [List.take_length] at this
   clear HT hlt hk
   go_wp2
   go_ret
   exact ⟨⟨-1,rfl,by constructor <;> intro h <;> first | (rw [HN.out] at h;cases h) | (exfalso;omega)⟩,HB.out⟩
theorem slContainsFuncPart_any (gf:Nat) (lb:Array Value) (eg : ∀ args w,(callFunc gf args).run Tryz.prog w = .ok (.enter gf args) w) (bo bn:Nat) (p:Nat→Bool) (v:Value) (l:List Nat) (w:World) (h:PartsAt bo bn w v l)
  (hp : ∀ W,Bel w W → ∀ x ∈ l,Calls Tryz.prog gf (#[pvOf bo bn x] ++ lb) W fun e w'=>e = .returned (.bool (p x))∧Bel W w') :
  Calls Tryz.prog 34 #[v,.func (.func gf) #[] lb] w fun e w'=>e = .returned (.bool (l.any p))∧Bel w w':=by
 have HI:=Lib.hid (slIndexFuncPart_any gf lb eg bo bn p v l w h hp)
 obtain ⟨g0,rfl,-⟩:=h
 obtain ⟨R,hR⟩ : ∃ R,R=l.any p:=⟨_,rfl⟩
 rw [← hR]
 have HR:=Lib.hid hR
 clear hR hp
 go_enter Tryz.func34,Tryz.ntmps34
 go_wp2_with fail
 refine HI.out.mono ?_
 rintro e w' ⟨⟨i,rfl,hi⟩,hb⟩
 have hd:l.any p=decide (0≤i):=by cases h:l.any p <;> simp [h] at hi ⊢ <;> omega
 have HRD:Hid (R=decide (0≤i)):=by show _=_;rw [HR.out,hd]
 have HB:=Lib.hid hb
 clear hi hd HI hb
 go_wp2
 go_ret
 exact ⟨by rw [HRD.out];rfl,HB.out⟩
end
section
open Go.RowKit Go.Shelf Go.Lib
attribute [local go_sem] Oper.semAt_some
set_option maxRecDepth 100000 in
set_option maxHeartbeats 4000000 in
theorem slEqualInt_any (va vb:Value) (a b:List Int) (w:World) (ha:IntsAt w va a) (hb:IntsAt w vb b):Calls Tryz.prog 83 #[va,vb] w fun e w'=>e = .returned (.bool (decide (a=b)))∧Bel w w':=by
 obtain ⟨R,hR⟩ : ∃ R,R=decide (a=b):=⟨_,rfl⟩
 rw [← hR]
 have HR:=Lib.hid hR
 clear hR
 obtain ⟨Aa,ca,rfl,hca,hma,hra⟩:=ha
 obtain ⟨Ab,cb,rfl,hcb,hmb,hrb⟩:=hb
 have haI:(a.length:Int)≤9223372036854775807:=by unfold maxLen at hma;omega
 have hbI:(b.length:Int)≤9223372036854775807:=by unfold maxLen at hmb;omega
 have HRA:=Lib.hid hra
 have HRB:=Lib.hid hrb
 clear hra hrb hma hmb hca hcb
 by_cases hab:a.length=b.length
 ·have habI:((a.length:Int) != b.length)=false:=by rw [bne_eq_false_iff_eq];omega
  have HAB:=Lib.hid hab
  clear hab
  go_enter Tryz.func83,Tryz.ntmps83
  go_wp2
  go_loopw [13] (fun i wr=>∃ k:Nat,k≤a.length∧i = .int .i64 k∧Hid (Bel w wr)∧Hid (a.take k=b.take k)) (fun i _=>a.length - (intOf i).toNat)
  case atStart=>exact ⟨0,Nat.zero_le _,rfl,Bel.refl w,by show _=_;simp⟩
  case round =>
   obtain ⟨k,hk,rfl,HB,HT⟩:=hrel
   by_cases hlt:k<a.length
   ·obtain ⟨x,hx⟩ : ∃ x,a[k]? = some x:=⟨_,List.getElem?_eq_getElem hlt⟩
    obtain ⟨y,hy⟩ : ∃ y,b[k]? = some y:=⟨_,List.getElem?_eq_getElem (by have:=HAB.out;omega)⟩
    obtain ⟨ba,oa,rfl,hai⟩:=HRA.out (by omega)
    obtain ⟨bb,ob,rfl,hbi⟩:=HRB.out (by have:=HAB.out;omega)
    have p0:=HB.out.drew.c (hai k x hx)
    have p1:=HB.out.drew.c (hbi k y hy)
    have hkI:(k:Int)<a.length:=by omega
    have hkJ:(k:Int)<b.length:=by have:=HAB.out;omega
    have HNX:Hid (x=y→a.take (k+1)=b.take (k+1)):=fun e=>by rw [List.take_add_one,List.take_add_one,hx,hy,HT.out,e]
    have HNO:Hid (¬ x=y→R=false):=fun e=>by rw [HR.out];exact decide_eq_false (fun h=>e (by rw [h,hy] at hx;exact (Option.some.inj hx).symm))
    have HLT:=Lib.hid hlt
    clear hx hy hai hbi hlt
    by_cases hxy:x=y
    ·have ht:=Lib.hid (HNX.out hxy)
     subst hxy
     have hxb:(x != x)=false:=by simp
     go_wp2
     refine wp_region_noPanic ?_
     refine wp_region_held_drew (S:=(fun V:World=>V.cell? ⟨ba,oa+k,none⟩=some (.int .i64 x)∧V.cell? ⟨bb,ob+k,none⟩=some (.int .i64 x))) (by kernel_rfl) ?_ (fun hHr1_0=>?_)
     ·(try dsimp only);exact ⟨p0,p1⟩
     refine tk 0 ?_
     refine tk 1 ?_
     refine tk 2 ?_
     refine tk 3 ?_
     refine tk 4 ?_
     refine tk 5 ?_
     refine tk 6 ?_
     refine tk 7 ?_
     refine tk 8 ?_
     refine wpAnyH_done (by kernel_rfl) ?_ _
     refine NoPanic.normal ?_
     go_wp2
     go_roundw
     case rel=>exact ⟨k+1,HLT.out,by go_num,HB.out.drew,ht.out⟩
     case measure=>have:=HLT.out;simp [intOf];omega
    ·have hf:=HNO.out hxy
     have hxb:(x != y)=true:=by rw [bne_iff_ne];exact hxy
     go_wp2
     refine wp_region_noPanic ?_
     refine wp_region_held_drew (S:=(fun V:World=>V.cell? ⟨ba,oa+k,none⟩=some (.int .i64 x)∧V.cell? ⟨bb,ob+k,none⟩=some (.int .i64 y))) (by kernel_rfl) ?_ (fun hHr2_0=>?_)
     ·(try dsimp only);exact ⟨p0,p1⟩
     refine tk 0 ?_
     refine tk 1 ?_
     refine tk 2 ?_
     refine tk 3 ?_
     refine tk 4 ?_
     refine tk 5 ?_
     refine tk 6 ?_
     refine tk 7 ?_
     refine tk 8 ?_
     refine wpAnyH_done (by kernel_rfl) ?_ _
     refine NoPanic.normal ?_
     go_wp2
     go_ret
     exact ⟨by first | rfl | (rw [hf];rfl),HB.out.drew⟩
   ·obtain rfl:k=a.length:=by omega
    have ht:R=true:=by
     rw [HR.out]
     have:=HT.out
     rw [List.take_length,HAB.out,List.take_length] at this
     exact decide_eq_true this
    clear HT hlt hk
    go_wp2
    go_ret
    exact ⟨by first | rfl | (rw [ht];rfl),HB.out⟩
 ·have hf:R=false:=by rw [HR.out];exact decide_eq_false (fun e=>hab (by rw [e]))
  have habI:((a.length:Int) != b.length)=true:=by rw [bne_iff_ne];omega
  go_enter Tryz.func83,Tryz.ntmps83
  go_wp2
  go_ret
  exact ⟨by first | rfl | (rw [hf];rfl),by (repeat (first | exact Below.refl _ _ | assumption | exact Bel.refl _ | refine Bel.alloc ?_ _ | refine Bel.drew ?_ | refine Bel.drewN ?_ _ | refine Bel.then_ ?_ (by assumption) | refine Bel.setCell ?_ (by first | (simp;done) | (simp;omega)) _))⟩
set_option maxRecDepth 100000 in
set_option maxHeartbeats 4000000 in
theorem tInts3_any (va vb:Value) (a b:List Int) (w:World) (ha:IntsAt w va a) (hb:IntsAt w vb b):Calls Tryz.prog 75 #[va,vb] w fun e w'=>e = .returned (.bool (decide (a=b)))∧Bel w w':=by
 obtain ⟨R,hR⟩ : ∃ R,R=decide (a=b):=⟨_,rfl⟩
 rw [← hR]
 have HR:=Lib.hid hR
 clear hR
 obtain ⟨Aa,ca,rfl,hca,hma,hra⟩:=ha
 obtain ⟨Ab,cb,rfl,hcb,hmb,hrb⟩:=hb
 have haI:(a.length:Int)≤9223372036854775807:=by unfold maxLen at hma;omega
 have hbI:(b.length:Int)≤9223372036854775807:=by unfold maxLen at hmb;omega
 have HRA:=Lib.hid hra
 have HRB:=Lib.hid hrb
 clear hra hrb hma hmb hca hcb
 by_cases hab:a.length=b.length
 ·have habI:((a.length:Int) != b.length)=false:=by rw [bne_eq_false_iff_eq];omega
  have HAB:=Lib.hid hab
  clear hab
  go_enter Tryz.func75,Tryz.ntmps75
  go_wp2
  go_loopw [5] (fun i wr=>∃ k:Nat,k≤a.length∧i = .int .i64 k∧Hid (Bel w wr)∧Hid (a.take k=b.take k)) (fun i _=>a.length - (intOf i).toNat)
  case atStart=>exact ⟨0,Nat.zero_le _,rfl,Bel.refl w,by show _=_;simp⟩
  case round =>
   obtain ⟨k,hk,rfl,HB,HT⟩:=hrel
   by_cases hlt:k<a.length
   ·obtain ⟨x,hx⟩ : ∃ x,a[k]? = some x:=⟨_,List.getElem?_eq_getElem hlt⟩
    obtain ⟨y,hy⟩ : ∃ y,b[k]? = some y:=⟨_,List.getElem?_eq_getElem (by have:=HAB.out;omega)⟩
    obtain ⟨ba,oa,rfl,hai⟩:=HRA.out (by omega)
    obtain ⟨bb,ob,rfl,hbi⟩:=HRB.out (by have:=HAB.out;omega)
    have p0:=HB.out.drew.c (hai k x hx)
    have p1:=HB.out.drew.c (hbi k y hy)
    have hkI:(k:Int)<a.length:=by omega
    have hkJ:(k:Int)<b.length:=by have:=HAB.out;omega
    have HNX:Hid (x=y→a.take (k+1)=b.take (k+1)):=fun e=>by rw [List.take_add_one,List.take_add_one,hx,hy,HT.out,e]
    have HNO:Hid (¬ x=y→R=false):=fun e=>by rw [HR.out];exact decide_eq_false (fun h=>e (by rw [h,hy] at hx;exact (Option.some.inj hx).symm))
    have HLT:=Lib.hid hlt
    clear hx hy hai hbi hlt
    by_cases hxy:x=y
    ·have ht:=Lib.hid (HNX.out hxy)
     subst hxy
     have hxb:(x != x)=false:=by simp
     go_wp2
     refine wp_region_noPanic ?_
     refine wp_region_held_drew (S:=(fun V:World=>V.cell? ⟨ba,oa+k,none⟩=some (.int .i64 x)∧V.cell? ⟨bb,ob+k,none⟩=some (.int .i64 x))) (by kernel_rfl) ?_ (fun hHr3_0=>?_)
     ·(try dsimp only);exact ⟨p0,p1⟩
     refine tk 0 ?_
     refine tk 1 ?_
     refine tk 2 ?_
     refine tk 3 ?_
     refine tk 4 ?_
     refine tk 5 ?_
     refine tk 6 ?_
     refine tk 7 ?_
     refine tk 8 ?_
     refine wpAnyH_done (by kernel_rfl) ?_ _
     refine NoPanic.normal ?_
     go_wp2
     go_roundw
     case rel=>exact ⟨k+1,HLT.out,by go_num,HB.out.drew,ht.out⟩
     case measure=>have:=HLT.out;simp [intOf];omega
    ·have hf:=HNO.out hxy
     have hxb:(x != y)=true:=by rw [bne_iff_ne];exact hxy
     go_wp2
     refine wp_region_noPanic ?_
     refine wp_region_held_drew (S:=(fun V:World=>V.cell? ⟨ba,oa+k,none⟩=some (.int .i64 x)∧V.cell? ⟨bb,ob+k,none⟩=some (.int .i64 y))) (by kernel_rfl) ?_ (fun hHr4_0=>?_)
     ·(try dsimp only);exact ⟨p0,p1⟩
     refine tk 0 ?_
     refine tk 1 ?_
     refine tk 2 ?_
     refine tk 3 ?_
     refine tk 4 ?_
     refine tk 5 ?_
     refine tk 6 ?_
     refine tk 7 ?_
     refine tk 8 ?_
     refine wpAnyH_done (by kernel_rfl) ?_ _
     refine NoPanic.normal ?_
     go_wp2
     go_ret
     exact ⟨by first | rfl | (rw [hf];rfl),HB.out.drew⟩
   ·obtain rfl:k=a.length:=by omega
    have ht:R=true:=by
     rw [HR.out]
     have:=HT.out
     rw [List.take_length,HAB.out,List.take_length] at this
     exact decide_eq_true this
    clear HT hlt hk
    go_wp2
    go_ret
    exact ⟨by first | rfl | (rw [ht];rfl),HB.out⟩
 ·have hf:R=false:=by rw [HR.out];exact decide_eq_false (fun e=>hab (by rw [e]))
  have habI:((a.length:Int) != b.length)=true:=by rw [bne_iff_ne];omega
  go_enter Tryz.func75,Tryz.ntmps75
  go_wp2
  go_ret
  exact ⟨by first | rfl | (rw [hf];rfl),by (repeat (first | exact Below.refl _ _ | assumption | exact Bel.refl _ | refine Bel.alloc ?_ _ | refine Bel.drew ?_ | refine Bel.drewN ?_ _ | refine Bel.then_ ?_ (by assumption) | refine Bel.setCell ?_ (by first | (simp;done) | (simp;omega)) _))⟩
end
end Go.Proofs.YtnajjhgbombboaaGreatDoor
