/-
  Texts behind the statement: part 38.
-/
import Derived.Test.YtnajjhgbombboaaGreatDoorP37
set_option linter.unusedVariables false
set_option linter.unusedSimpArgs false
namespace Go.Proofs.YtnajjhgbombboaaGreatDoor
section
open Go.RowKit Go.Shelf Go.Lib
attribute [local go_sem] Oper.semAt_some
set_option maxRecDepth 100000 in
set_option maxHeartbeats 8000000 in
theorem r8Encode_6 (t:ByteArray) (c:List Col) (ky:List Int) (u:List (List Int)) (o n:List Val) (ns:List (ByteArray×ByteArray)) (vc vk vu vo vn vs:Value) (w:World) (hr:rightE ⟨6,t,c,ky,u,o,n,ns⟩=true) (hsz:Ev.Sz ⟨6,t,c,ky,u,o,n,ns⟩) (hlen:c.length≤1000000∧ky.length≤1000000∧u.length≤1000000) (h:EvAt w vc vk vu vo vn vs ⟨6,t,c,ky,u,o,n,ns⟩) :
  Calls Tryz.prog 12 #[evV 6 t vc vk vu vo vn vs] w (GivesE8 ⟨6,t,c,ky,u,o,n,ns⟩ w):=by
 have HRI:=Lib.hid (fun V (hV:Bel w V)=>r8Right_any ⟨6,t,c,ky,u,o,n,ns⟩ vc vk vu vo vn vs V hsz hlen (h.bel hV))
 rw [hr] at HRI
 have hen:encER ⟨6,t,c,ky,u,o,n,ns⟩=(encE ⟨6,t,c,ky,u,o,n,ns⟩,0):=by unfold encER;rw [if_pos hr]
 unfold GivesE8
 rw [hen]
 obtain ⟨-,-,hmay,-⟩:=rightE_parts hr
 have hnb:namesB ns=true:=List.all_eq_true.1 hmay 2 (show (2:Nat) ∈ partsOf 6 by decide)
 obtain ⟨n1,n4,hn⟩:=namesB_parts hnb
 have HNM:Hid (∀ p ∈ ns,p.1.size≤24∧p.2.size≤24):=Lib.hid (fun p hp=>⟨(named_size (hn p hp).1).2,(named_size (hn p hp).2).2⟩)
 have HNU:=Lib.hid (fun V=>r2Number_any 6 (by omega) V)
 have h9:=numB_9 (n:=6) (by omega)
 have HNV:=Lib.hid (fun V=>r2Number_any ns.length (by omega) V)
 have h9v:=numB_9 (n:=ns.length) (by omega)
 have HEN:Hid (encE ⟨6,t,c,ky,u,o,n,ns⟩=(numB 6 ++ numB ns.length) ++ encPairs ns):=Lib.hid (by unfold encE partsOf;simp [layP])
 have HNS:=Lib.hid h.ns
 generalize encE ⟨6,t,c,ky,u,o,n,ns⟩=EE at HEN ⊢
 obtain ⟨Ac,cc,Ak,ck,Au,cu,Ao,co,An,cn,As,cs,rfl,rfl,rfl,rfl,rfl,rfl⟩:=h.opened
 clear h hsz hlen hr hen hmay hnb hn
 unfold evV at *
 dsimp only at *
 have hI4:(ns.length:Int)≤4:=by omega
 have hcv:IntKind.u64.wrap (ns.length:Int)=(ns.length:Int):=by simp only [IntKind.wrap,IntKind.bits,IntKind.signed];simp;omega
 have HRC:Hid (0<ns.length → ∃ b off,As=some ⟨b,off,none⟩ ∧ ∀ i (x:ByteArray×ByteArray),ns[i]? = some x→w.cell? ⟨b,off+i * 2,none⟩=some (.string x.1)∧w.cell? ⟨b,off+i * 2+1,none⟩=some (.string x.2)):=by
  obtain ⟨A',c',e',-,-,h'⟩:=HNS.out
  cases e'
  exact Lib.hid h'
 obtain ⟨WE,hWE⟩ : ∃ W,W=w.alloc (.cells #[.int .i64 6,.string t,.slice Ac c.length cc,.slice Ak ky.length ck,.slice Au u.length cu,.slice Ao o.length co,.slice An n.length cn,.slice As ns.length cs] 31):=⟨_,rfl⟩
 have HBX:Hid (Blk WE w.heap.size 31 #[.int .i64 6,.string t,.slice Ac c.length cc,.slice Ak ky.length ck,.slice Au u.length cu,.slice Ao o.length co,.slice An n.length cn,.slice As ns.length cs]):=Lib.hid (by rw [hWE];exact Blk.new w _ _)
 have HBE:Hid (Bel w WE):=Lib.hid (by rw [hWE];exact (Bel.refl w).alloc _)
 have HCX:Hid (∀ V,Bel WE V→(V.cell? ⟨w.heap.size,0,none⟩=some (.int .i64 6)∧V.cell? ⟨w.heap.size,1,none⟩=some (.string t)∧V.cell? ⟨w.heap.size,2,none⟩=some (.slice Ac c.length cc)∧V.cell? ⟨w.heap.size,3,none⟩=some (.slice Ak ky.length ck)∧V.cell? ⟨w.heap.size,4,none⟩=some (.slice Au u.length cu)∧V.cell? ⟨w.heap.size,5,none⟩=some (.slice Ao o.length co)∧V.cell? ⟨w.heap.size,6,none⟩=some (.slice An n.length cn)∧V.cell? ⟨w.heap.size,7,none⟩=some (.slice As ns.length cs))) :=
  Lib.hid (fun V hV=>by have h:=HBX.out.below hV HBX.out.lt;exact ⟨h.cell 0,h.cell 1,h.cell 2,h.cell 3,h.cell 4,h.cell 5,h.cell 6,h.cell 7⟩)
 go_enter Tryz.func12,Tryz.ntmps12
 go_wp2_with fail
 rw [← hWE]
 clear hWE
 refine (HRI.out _ HBE.out).mono ?_
 rintro e1 w1 ⟨rfl,hb1⟩
 have HB1:=Lib.hid hb1
 obtain ⟨x0,x1,x2,x3,x4,x5,x6,x7⟩:=HCX.out w1 hb1
 clear hb1
 go_wp2_with fail
 refine (HNU.out _).mono ?_
 rintro e2 w2 h2
 obtain ⟨A2,m2,c2,rfl,HR2,hb2⟩:=givesB_row HB1.out h2
 have hm2:m2≤9:=Nat.le_trans (Nat.le_of_eq HR2.out.1.symm) h9
 clear h2 hb2 x0 x1 x2 x3 x4 x5 x6 x7
 obtain ⟨x0,x1,x2,x3,x4,x5,x6,x7⟩:=HCX.out w2 HR2.out.2.2.1
 go_wp2_with fail
 refine (HNV.out _).mono ?_
 rintro e3 w3 h3
 obtain ⟨A3,m3,c3,rfl,HS3,hb3⟩:=givesB_src h3
 have hm3:m3≤9:=Nat.le_trans (Nat.le_of_eq HS3.out.1.symm) h9v
 have H3:=Lib.hid (HR2.out.bel hb3)
 clear h3 hb3 x0 x1 x2 x3 x4 x5 x6 x7
 obtain ⟨x0,x1,x2,x3,x4,x5,x6,x7⟩:=HCX.out w3 H3.out.2.2.1
 go_wp2_with (at_builtin;refine app8 rfl (.tmp 69) (.tmp 74) rfl H3.out (by rfl) HS3.out (by rfl) (by omega) ?_;intro A4 c4 w4 H4)
 go_loopw [4,7] (fun v i wr=>∃ (k nn:Nat) (A':Option Addr) (c':Nat),k≤ns.length∧nn≤18+100 * k∧v = .slice A' nn c'∧i = .int .i64 k∧Hid (Row8 WE w1.heap.size nn (.slice A' nn c') ((numB 6 ++ numB ns.length) ++ encPairs (ns.take k)) wr)) (fun v i _=>ns.length - (intOf i).toNat)
 case atStart=>exact ⟨0,_,_,_,Nat.zero_le _,by omega,rfl,rfl,by have:=H4.out;show Row8 _ _ _ _ ((numB 6 ++ numB ns.length) ++ []) _;rw [List.append_nil];exact this⟩
 case round =>
  obtain ⟨k,nn,A',c',hk,hnn,rfl,rfl,HR⟩:=hrel
  clear x0 x1 x2 x3 x4 x5 x6 x7
  obtain ⟨x0,x1,x2,x3,x4,x5,x6,x7⟩:=HCX.out wr HR.out.2.2.1
  by_cases hlt:k<ns.length
  ·obtain ⟨p,hp⟩ : ∃ p,ns[k]? = some p:=⟨_,List.getElem?_eq_getElem hlt⟩
   obtain ⟨bc,oc,rfl,hci⟩:=HRC.out (by omega)
   obtain ⟨p0,p1⟩:=hci k p hp
   have HC2:=Lib.hid (fun V (hV:Bel WE V)=>And.intro (HCX.out V hV) (And.intro ((HBE.out.then_ hV).c p0) ((HBE.out.then_ hV).c p1)))
   have hkI:(k:Int)<ns.length:=by omega
   have htk:encPairs (ns.take (k+1))=encPairs (ns.take k) ++ encPair p:=by rw [List.take_add_one,hp];exact encPairs_app _ _
   have HTK:=Lib.hid htk
   obtain ⟨g1,g2⟩:=HNM.out p (List.mem_of_getElem? hp)
   obtain ⟨a,b⟩:=p
   dsimp only at *
   have HTA:=Lib.hid (fun V=>r8text_any a (by omega) V)
   have HTB:=Lib.hid (fun V=>r8text_any b (by omega) V)
   have h33a:=textB_len g1
   have h33b:=textB_len g2
   clear hp hci p0 p1 htk
   go_wp2_with fail
   refine wp_region_noPanic ?_
   refine wp_region_held_drew (S:=(fun V:World=>(V.cell? ⟨w.heap.size,0,none⟩=some (.int .i64 6)∧V.cell? ⟨w.heap.size,1,none⟩=some (.string t)∧V.cell? ⟨w.heap.size,2,none⟩=some (.slice Ac c.length cc)∧V.cell? ⟨w.heap.size,3,none⟩=some (.slice Ak ky.length ck)∧V.cell? ⟨w.heap.size,4,none⟩=some (.slice Au u.length cu)∧V.cell? ⟨w.heap.size,5,none⟩=some (.slice Ao o.length co)∧V.cell? ⟨w.heap.size,6,none⟩=some (.slice An n.length cn)∧V.cell? ⟨w.heap.size,7,none⟩=some (.slice (some ⟨bc,oc,none⟩) ns.length cs))∧V.cell? ⟨bc,oc+k * 2,none⟩=some (.string a)∧V.cell? ⟨bc,oc+k * 2+1,none⟩=some (.string b))) (by kernel_rfl) ?_ (fun hHr1_0=>?_)
   ·(try dsimp only);(first | assumption | exact HC2.out _ (HR.out.2.2.1.drew) | exact HC2.out _ H6.out.2.2.1 | exact HC2.out _ H9.out.2.2.1 | exact HC2.out _ H10.out.2.2.1 | exact HC2.out _ H11.out.2.2.1)
   refine tk 0 ?_
   refine tk 1 ?_
   refine tk 2 ?_
   refine tk 3 ?_
   refine tk 4 ?_
   refine tk 5 ?_
   refine tk 6 ?_
   refine tk 9 ?_
   refine tk 10 ?_
   refine tk 11 ?_
   refine tk 12 ?_
   refine tk 13 ?_
   refine tk 14 ?_
   refine rd1 7 (fun K hK=>?_)
   go_simp
   (go_at_call 30;refine (HTA.out _).mono ?_;rintro e w6 h6;obtain ⟨A6,m6,c6,rfl,HS6,hb6⟩:=givesB_src h6;have hm6:m6≤33:=Nat.le_trans (Nat.le_of_eq HS6.out.1.symm) h33a;have H6:=Lib.hid (HR.out.bel ((Bel.refl wr).drew.then_ hb6));clear h6)
   try (go_wp2_with fail)
   refine hK.out _ _ ?_ (fun hHr1_1=>?_)
   ·(try dsimp only);(first | assumption | exact HC2.out _ (HR.out.2.2.1.drew) | exact HC2.out _ H6.out.2.2.1 | exact HC2.out _ H9.out.2.2.1 | exact HC2.out _ H10.out.2.2.1 | exact HC2.out _ H11.out.2.2.1)
   clear hK K hHr1_0
   try simp only [tkp0,tkp1,tkp2,tkp3,tkp4,tkp5,tkp6,tkp7]
   refine rd1 8 (fun K hK=>?_)
   rw [if_pos (by first | rfl | kernel_rfl)]
   (refine app8k (lo:=0) (hi:=0) (.tmp 83) (.tmp 90) rfl H6.out (by rfl) HS6.out (by rfl) (by omega) (fun _ _=>.inr (Nat.zero_le _)) (Nat.zero_le _) ?_;intro A9 c9 w9 H9 _)
   refine hK.out _ _ ?_ (fun hHr1_2=>?_)
   ·(try dsimp only);(first | assumption | exact HC2.out _ (HR.out.2.2.1.drew) | exact HC2.out _ H6.out.2.2.1 | exact HC2.out _ H9.out.2.2.1 | exact HC2.out _ H10.out.2.2.1 | exact HC2.out _ H11.out.2.2.1)
   clear hK K hHr1_1
   try simp only [tkp0,tkp1,tkp2,tkp3,tkp4,tkp5,tkp6,tkp7]
   refine rd1 15 (fun K hK=>?_)
   go_simp
   (go_at_call 30;refine (HTB.out _).mono ?_;rintro e w10 h10;obtain ⟨A10,m10,c10,rfl,HS10,hb10⟩:=givesB_src h10;have hm10:m10≤33:=Nat.le_trans (Nat.le_of_eq HS10.out.1.symm) h33b;have H10:=Lib.hid (H9.out.bel hb10);clear h10)
   try (go_wp2_with fail)
   refine hK.out _ _ ?_ (fun hHr1_3=>?_)
   ·(try dsimp only);(first | assumption | exact HC2.out _ (HR.out.2.2.1.drew) | exact HC2.out _ H6.out.2.2.1 | exact HC2.out _ H9.out.2.2.1 | exact HC2.out _ H10.out.2.2.1 | exact HC2.out _ H11.out.2.2.1)
   clear hK K hHr1_2
   try simp only [tkp0,tkp1,tkp2,tkp3,tkp4,tkp5,tkp6,tkp7]
   refine rd1 16 (fun K hK=>?_)
   rw [if_pos (by first | rfl | kernel_rfl)]
   (refine app8k (lo:=0) (hi:=0) (.tmp 91) (.tmp 98) rfl H10.out (by rfl) HS10.out (by rfl) (by omega) (fun _ _=>.inr (Nat.zero_le _)) (Nat.zero_le _) ?_;intro A11 c11 w11 H11 _)
   refine hK.out _ _ ?_ (fun hHr1_4=>?_)
   ·(try dsimp only);(first | assumption | exact HC2.out _ (HR.out.2.2.1.drew) | exact HC2.out _ H6.out.2.2.1 | exact HC2.out _ H9.out.2.2.1 | exact HC2.out _ H10.out.2.2.1 | exact HC2.out _ H11.out.2.2.1)
   clear hK K hHr1_3
   try simp only [tkp0,tkp1,tkp2,tkp3,tkp4,tkp5,tkp6,tkp7]
   refine tk 17 ?_
   refine wpAnyH_done (by kernel_rfl) ?_ _
   refine NoPanic.normal ?_
   go_wp2
   go_roundw
   case rel=>exact ⟨k+1,_,_,_,by omega,by omega,rfl,by go_num,by rw [HTK.out];have:=H11.out;simp only [encPair,List.append_assoc] at this ⊢;exact this⟩
   case measure=>simp [intOf];omega
  ·obtain rfl:k=ns.length:=by omega
   have HF:Hid (Row8 WE w1.heap.size nn (.slice A' nn c') EE wr):=by have:=HR.out;rw [List.take_length,← HEN.out] at this;exact Lib.hid this
   clear HR
   go_wp2
   go_ret2
   obtain ⟨v,hv,hbs,hbb⟩:=HF.out.gives
   exact ⟨v,by rw [← hv];rfl,hbs,HBE.out.then_ hbb⟩
theorem r8Encode_any (e:Ev) (vc vk vu vo vn vs:Value) (w:World) (hw:e.Wf) (hsz:e.Sz) (hlen:e.c.length≤1000000∧e.ky.length≤1000000∧e.u.length≤1000000) (h:EvAt w vc vk vu vo vn vs e) :
  Calls Tryz.prog 12 #[evV e.k e.t vc vk vu vo vn vs] w (GivesE8 e w):=by
 cases hr:rightE e with
 | false =>
   have HRI:=Lib.hid (fun V (hV:Bel w V)=>r8Right_any e vc vk vu vo vn vs V hsz hlen (h.bel hV))
   rw [hr] at HRI
   have hen:encER e=([],2):=by unfold encER;rw [hr];rfl
   unfold GivesE8
   rw [hen]
   obtain ⟨Ac,cc,Ak,ck,Au,cu,Ao,co,An,cn,As,cs,rfl,rfl,rfl,rfl,rfl,rfl⟩:=h.opened
   clear h hsz hlen hr hw hen
   obtain ⟨k,t,c,ky,u,o,n,ns⟩:=e
   unfold evV at *
   dsimp only at *
   go_enter Tryz.func12,Tryz.ntmps12
   go_wp2_with (go_at_call 28;refine (HRI.out _ ((Bel.refl w).alloc _)).mono ?_;rintro e1 w1 ⟨rfl,hb1⟩)
   go_ret2
   exact ⟨_,rfl,⟨none,0,rfl,Nat.le_refl _,Nat.zero_le _,Reads.none_⟩,((Bel.refl w).alloc _).then_ hb1⟩
 | true =>
   have hk:=(rightE_parts hr).1
   obtain ⟨k,t,c,ky,u,o,n,ns⟩:=e
   dsimp only at hk hlen
   have hc:k=1 ∨ k=2 ∨ k=3 ∨ k=4 ∨ k=5 ∨ k=6:=by omega
   rcases hc with rfl | rfl | rfl | rfl | rfl | rfl
   ·exact r8Encode_1 t c ky u o n ns vc vk vu vo vn vs w hr hw hsz hlen h
   ·exact r8Encode_2 t c ky u o n ns vc vk vu vo vn vs w hr hw hsz hlen h
   ·exact r8Encode_3 t c ky u o n ns vc vk vu vo vn vs w hr hw hsz hlen h
   ·exact r8Encode_4 t c ky u o n ns vc vk vu vo vn vs w hr hw hsz hlen h
   ·exact r8Encode_5 t c ky u o n ns vc vk vu vo vn vs w hr hw hsz hlen h
   ·exact r8Encode_6 t c ky u o n ns vc vk vu vo vn vs w hr hsz hlen h
end
end Go.Proofs.YtnajjhgbombboaaGreatDoor
