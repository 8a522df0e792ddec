/-
  Texts behind the statement: part 37.
-/
import Derived.Test.YtnajjhgbombboaaGreatDoorP36
set_option linter.unusedVariables false
set_option linter.unusedSimpArgs false
namespace Go.Proofs.YtnajjhgbombboaaGreatDoor
section
open Go.RowKit Go.Shelf Go.Lib
attribute [local go_sem] Oper.semAt_some
theorem r8text_any (s:ByteArray) (hs:s.size≤1000000) (w:World):Calls Tryz.prog 30 #[.string s] w (GivesB (textB s.data.toList) w):=by
 have HT:=Lib.hid (r2Text_any s hs w)
 go_enter Tryz.func30,Tryz.ntmps30
 go_wp2_with fail
 refine HT.out.mono ?_
 rintro e w1 ⟨A,c,rfl,hr,hb⟩
 go_wp2
 go_ret
 exact ⟨A,c,rfl,hr,hb⟩
theorem r8textL_any (s:List UInt8) (hs:s.length≤1000000) (w:World):Calls Tryz.prog 30 #[.string ⟨s.toArray⟩] w (GivesB (textB s) w):=r8text_any ⟨s.toArray⟩ hs w
theorem textB_1900 {s:List UInt8} (h:s.length≤1900):(textB s).length≤1909:=by
 unfold textB
 rw [List.length_append]
 have:=numB_9 (n:=s.length) (by omega)
 omega
def GivesE8 (e:Ev) (w:World) (en:Ending) (w':World):Prop:=∃ v,en = .returned (.tuple #[v,.int .i64 (encER e).2])∧BsAt w' v (encER e).1∧Bel w w'
set_option maxRecDepth 100000 in
set_option maxHeartbeats 8000000 in
theorem r8Encode_1 (t:ByteArray) (c:List Col) (ky:List Int) (u:List (List Int)) (o n:List Val) (ns:List (ByteArray×ByteArray)) (vc vk vu vo vn vs:Value) (w:World) (hr:rightE ⟨1,t,c,ky,u,o,n,ns⟩=true) (hw:Ev.Wf ⟨1,t,c,ky,u,o,n,ns⟩) (hsz:Ev.Sz ⟨1,t,c,ky,u,o,n,ns⟩) (hlen:c.length≤1000000∧ky.length≤1000000∧u.length≤1000000) (h:EvAt w vc vk vu vo vn vs ⟨1,t,c,ky,u,o,n,ns⟩) :
  Calls Tryz.prog 12 #[evV 1 t vc vk vu vo vn vs] w (GivesE8 ⟨1,t,c,ky,u,o,n,ns⟩ w):=by
 have HRI:=Lib.hid (fun V (hV:Bel w V)=>r8Right_any ⟨1,t,c,ky,u,o,n,ns⟩ vc vk vu vo vn vs V hsz hlen (h.bel hV))
 rw [hr] at HRI
 have hen:encER ⟨1,t,c,ky,u,o,n,ns⟩=(encE ⟨1,t,c,ky,u,o,n,ns⟩,0):=by unfold encER;rw [if_pos hr]
 unfold GivesE8
 rw [hen]
 obtain ⟨-,-,hmay,-⟩:=rightE_parts hr
 have hnm:namedB t=true:=List.all_eq_true.1 hmay 0 (show (0:Nat) ∈ partsOf 1 by decide)
 have ht24:=(named_size hnm).2
 have HT:=Lib.hid (fun V=>r8text_any t (by omega) V)
 have h33:=textB_len ht24
 have HNU:=Lib.hid (fun V=>r2Number_any 1 (by omega) V)
 have h9:=numB_9 (n:=1) (by omega)
 have hrn:=rowB_parts (l:=n) (List.all_eq_true.1 hmay 4 (show (4:Nat) ∈ partsOf 1 by decide))
 have hwn : ∀ x ∈ n,x.Wf:=fun x hx=>hw x (List.mem_append_right _ hx)
 have hln:=rowB_len (l:=n) (List.all_eq_true.1 hmay 4 (show (4:Nat) ∈ partsOf 1 by decide)) hwn
 have HKn:=Lib.hid (fun V (hV:Bel w V)=>krKey_any vn n V (h.n.bel hV) (fun x hx=>⟨hrn.2.2 x hx,hwn x hx⟩) (by omega))
 unfold strV at HKn
 have HTn:=Lib.hid (fun V=>r8textL_any (keyL n) (by omega) V)
 have h19n:=textB_1900 (s:=keyL n) (by omega)
 have HEN:Hid (encE ⟨1,t,c,ky,u,o,n,ns⟩=(numB 1 ++ textB t.data.toList) ++ textB (keyL n)):=Lib.hid (by unfold encE partsOf;simp [layP])
 generalize keyL n=Kn at HKn HTn h19n HEN
 generalize encE ⟨1,t,c,ky,u,o,n,ns⟩=EE at HEN ⊢
 obtain ⟨Ac,cc,Ak,ck,Au,cu,Ao,co,An,cn,As,cs,rfl,rfl,rfl,rfl,rfl,rfl⟩:=h.opened
 clear h hsz hlen hr hw hen hmay hnm hrn hwn hln
 unfold evV at *
 dsimp only at *
 obtain ⟨WE,hWE⟩ : ∃ W,W=w.alloc (.cells #[.int .i64 1,.string t,.slice Ac c.length cc,.slice Ak ky.length ck,.slice Au u.length cu,.slice Ao o.length co,.slice An n.length cn,.slice As ns.length cs] 31):=⟨_,rfl⟩
 have HBX:Hid (Blk WE w.heap.size 31 #[.int .i64 1,.string t,.slice Ac c.length cc,.slice Ak ky.length ck,.slice Au u.length cu,.slice Ao o.length co,.slice An n.length cn,.slice As ns.length cs]):=Lib.hid (by rw [hWE];exact Blk.new w _ _)
 have HBE:Hid (Bel w WE):=Lib.hid (by rw [hWE];exact (Bel.refl w).alloc _)
 have HCX:Hid (∀ V,Bel WE V→(V.cell? ⟨w.heap.size,0,none⟩=some (.int .i64 1)∧V.cell? ⟨w.heap.size,1,none⟩=some (.string t)∧V.cell? ⟨w.heap.size,2,none⟩=some (.slice Ac c.length cc)∧V.cell? ⟨w.heap.size,3,none⟩=some (.slice Ak ky.length ck)∧V.cell? ⟨w.heap.size,4,none⟩=some (.slice Au u.length cu)∧V.cell? ⟨w.heap.size,5,none⟩=some (.slice Ao o.length co)∧V.cell? ⟨w.heap.size,6,none⟩=some (.slice An n.length cn)∧V.cell? ⟨w.heap.size,7,none⟩=some (.slice As ns.length cs))) :=
  Lib.hid (fun V hV=>by have h:=HBX.out.below hV HBX.out.lt;exact ⟨h.cell 0,h.cell 1,h.cell 2,h.cell 3,h.cell 4,h.cell 5,h.cell 6,h.cell 7⟩)
 go_enter Tryz.func12,Tryz.ntmps12
 go_wp2_with fail
 rw [← hWE]
 clear hWE
 refine (HRI.out _ HBE.out).mono ?_
 rintro e1 w1 ⟨rfl,hb1⟩
 have HB1:=Lib.hid hb1
 obtain ⟨x0,x1,x2,x3,x4,x5,x6,x7⟩:=HCX.out w1 hb1
 clear hb1
 go_wp2_with fail
 refine (HNU.out _).mono ?_
 rintro e2 w2 h2
 obtain ⟨A2,m2,c2,rfl,HR2,hb2⟩:=givesB_row HB1.out h2
 have hm2:m2≤9:=Nat.le_trans (Nat.le_of_eq HR2.out.1.symm) h9
 clear h2 hb2 x0 x1 x2 x3 x4 x5 x6 x7
 obtain ⟨x0,x1,x2,x3,x4,x5,x6,x7⟩:=HCX.out w2 HR2.out.2.2.1
 go_wp2_with fail
 refine (HT.out _).mono ?_
 rintro e3 w3 h3
 obtain ⟨A3,m3,c3,rfl,HS3,hb3⟩:=givesB_src h3
 have hm3:m3≤33:=Nat.le_trans (Nat.le_of_eq HS3.out.1.symm) h33
 have H3:=Lib.hid (HR2.out.bel hb3)
 clear h3 hb3 x0 x1 x2 x3 x4 x5 x6 x7
 obtain ⟨x0,x1,x2,x3,x4,x5,x6,x7⟩:=HCX.out w3 H3.out.2.2.1
 go_wp2_with (at_builtin;refine app8 rfl (.tmp 18) (.tmp 21) rfl H3.out (by rfl) HS3.out (by rfl) (by omega) ?_;intro A4 c4 w4 H4;clear x0 x1 x2 x3 x4 x5 x6 x7;obtain ⟨x0,x1,x2,x3,x4,x5,x6,x7⟩:=HCX.out w4 H4.out.2.2.1)
 refine (HKn.out _ (HBE.out.then_ H4.out.2.2.1)).mono ?_
 rintro e5 w5 ⟨rfl,hb5⟩
 have H5:=Lib.hid (H4.out.bel hb5)
 clear hb5 x0 x1 x2 x3 x4 x5 x6 x7
 obtain ⟨x0,x1,x2,x3,x4,x5,x6,x7⟩:=HCX.out w5 H5.out.2.2.1
 go_wp2_with fail
 refine (HTn.out _).mono ?_
 rintro e6 w6 h6
 obtain ⟨A6,m6,c6,rfl,HS6,hb6⟩:=givesB_src h6
 have hm6:m6≤1909:=Nat.le_trans (Nat.le_of_eq HS6.out.1.symm) h19n
 have H6:=Lib.hid (H5.out.bel hb6)
 clear h6 hb6 x0 x1 x2 x3 x4 x5 x6 x7
 obtain ⟨x0,x1,x2,x3,x4,x5,x6,x7⟩:=HCX.out w6 H6.out.2.2.1
 go_wp2_with (at_builtin;refine app8 rfl (.tmp 27) (.tmp 31) rfl H6.out (by rfl) HS6.out (by rfl) (by omega) ?_;intro A7 c7 w7 H7)
 go_ret2
 obtain ⟨v,hv,hbs,hbb⟩:=H7.out.gives
 rw [← HEN.out] at hbs
 exact ⟨v,by rw [← hv];rfl,hbs,HBE.out.then_ hbb⟩
set_option maxRecDepth 100000 in
set_option maxHeartbeats 8000000 in
theorem r8Encode_2 (t:ByteArray) (c:List Col) (ky:List Int) (u:List (List Int)) (o n:List Val) (ns:List (ByteArray×ByteArray)) (vc vk vu vo vn vs:Value) (w:World) (hr:rightE ⟨2,t,c,ky,u,o,n,ns⟩=true) (hw:Ev.Wf ⟨2,t,c,ky,u,o,n,ns⟩) (hsz:Ev.Sz ⟨2,t,c,ky,u,o,n,ns⟩) (hlen:c.length≤1000000∧ky.length≤1000000∧u.length≤1000000) (h:EvAt w vc vk vu vo vn vs ⟨2,t,c,ky,u,o,n,ns⟩) :
  Calls Tryz.prog 12 #[evV 2 t vc vk vu vo vn vs] w (GivesE8 ⟨2,t,c,ky,u,o,n,ns⟩ w):=by
 have HRI:=Lib.hid (fun V (hV:Bel w V)=>r8Right_any ⟨2,t,c,ky,u,o,n,ns⟩ vc vk vu vo vn vs V hsz hlen (h.bel hV))
 rw [hr] at HRI
 have hen:encER ⟨2,t,c,ky,u,o,n,ns⟩=(encE ⟨2,t,c,ky,u,o,n,ns⟩,0):=by unfold encER;rw [if_pos hr]
 unfold GivesE8
 rw [hen]
 obtain ⟨-,-,hmay,-⟩:=rightE_parts hr
 have hnm:namedB t=true:=List.all_eq_true.1 hmay 0 (show (0:Nat) ∈ partsOf 2 by decide)
 have ht24:=(named_size hnm).2
 have HT:=Lib.hid (fun V=>r8text_any t (by omega) V)
 have h33:=textB_len ht24
 have HNU:=Lib.hid (fun V=>r2Number_any 2 (by omega) V)
 have h9:=numB_9 (n:=2) (by omega)
 have hro:=rowB_parts (l:=o) (List.all_eq_true.1 hmay 3 (show (3:Nat) ∈ partsOf 2 by decide))
 have hwo : ∀ x ∈ o,x.Wf:=fun x hx=>hw x (List.mem_append_left _ hx)
 have hlo:=rowB_len (l:=o) (List.all_eq_true.1 hmay 3 (show (3:Nat) ∈ partsOf 2 by decide)) hwo
 have HKo:=Lib.hid (fun V (hV:Bel w V)=>krKey_any vo o V (h.o.bel hV) (fun x hx=>⟨hro.2.2 x hx,hwo x hx⟩) (by omega))
 unfold strV at HKo
 have HTo:=Lib.hid (fun V=>r8textL_any (keyL o) (by omega) V)
 have h19o:=textB_1900 (s:=keyL o) (by omega)
 have hrn:=rowB_parts (l:=n) (List.all_eq_true.1 hmay 4 (show (4:Nat) ∈ partsOf 2 by decide))
 have hwn : ∀ x ∈ n,x.Wf:=fun x hx=>hw x (List.mem_append_right _ hx)
 have hln:=rowB_len (l:=n) (List.all_eq_true.1 hmay 4 (show (4:Nat) ∈ partsOf 2 by decide)) hwn
 have HKn:=Lib.hid (fun V (hV:Bel w V)=>krKey_any vn n V (h.n.bel hV) (fun x hx=>⟨hrn.2.2 x hx,hwn x hx⟩) (by omega))
 unfold strV at HKn
 have HTn:=Lib.hid (fun V=>r8textL_any (keyL n) (by omega) V)
 have h19n:=textB_1900 (s:=keyL n) (by omega)
 have HEN:Hid (encE ⟨2,t,c,ky,u,o,n,ns⟩=((numB 2 ++ textB t.data.toList) ++ textB (keyL o)) ++ textB (keyL n)):=Lib.hid (by unfold encE partsOf;simp [layP])
 generalize keyL o=Ko at HKo HTo h19o HEN
 generalize keyL n=Kn at HKn HTn h19n HEN
 generalize encE ⟨2,t,c,ky,u,o,n,ns⟩=EE at HEN ⊢
 obtain ⟨Ac,cc,Ak,ck,Au,cu,Ao,co,An,cn,As,cs,rfl,rfl,rfl,rfl,rfl,rfl⟩:=h.opened
 clear h hsz hlen hr hw hen hmay hnm hro hwo hlo hrn hwn hln
 unfold evV at *
 dsimp only at *
 obtain ⟨WE,hWE⟩ : ∃ W,W=w.alloc (.cells #[.int .i64 2,.string t,.slice Ac c.length cc,.slice Ak ky.length ck,.slice Au u.length cu,.slice Ao o.length co,.slice An n.length cn,.slice As ns.length cs] 31):=⟨_,rfl⟩
 have HBX:Hid (Blk WE w.heap.size 31 #[.int .i64 2,.string t,.slice Ac c.length cc,.slice Ak ky.length ck,.slice Au u.length cu,.slice Ao o.length co,.slice An n.length cn,.slice As ns.length cs]):=Lib.hid (by rw [hWE];exact Blk.new w _ _)
 have HBE:Hid (Bel w WE):=Lib.hid (by rw [hWE];exact (Bel.refl w).alloc _)
 have HCX:Hid (∀ V,Bel WE V→(V.cell? ⟨w.heap.size,0,none⟩=some (.int .i64 2)∧V.cell? ⟨w.heap.size,1,none⟩=some (.string t)∧V.cell? ⟨w.heap.size,2,none⟩=some (.slice Ac c.length cc)∧V.cell? ⟨w.heap.size,3,none⟩=some (.slice Ak ky.length ck)∧V.cell? ⟨w.heap.size,4,none⟩=some (.slice Au u.length cu)∧V.cell? ⟨w.heap.size,5,none⟩=some (.slice Ao o.length co)∧V.cell? ⟨w.heap.size,6,none⟩=some (.slice An n.length cn)∧V.cell? ⟨w.heap.size,7,none⟩=some (.slice As ns.length cs))) :=
  Lib.hid (fun V hV=>by have h:=HBX.out.below hV HBX.out.lt;exact ⟨h.cell 0,h.cell 1,h.cell 2,h.cell 3,h.cell 4,h.cell 5,h.cell 6,h.cell 7⟩)
 go_enter Tryz.func12,Tryz.ntmps12
 go_wp2_with fail
 rw [← hWE]
 clear hWE
 refine (HRI.out _ HBE.out).mono ?_
 rintro e1 w1 ⟨rfl,hb1⟩
 have HB1:=Lib.hid hb1
 obtain ⟨x0,x1,x2,x3,x4,x5,x6,x7⟩:=HCX.out w1 hb1
 clear hb1
 go_wp2_with fail
 refine (HNU.out _).mono ?_
 rintro e2 w2 h2
 obtain ⟨A2,m2,c2,rfl,HR2,hb2⟩:=givesB_row HB1.out h2
 have hm2:m2≤9:=Nat.le_trans (Nat.le_of_eq HR2.out.1.symm) h9
 clear h2 hb2 x0 x1 x2 x3 x4 x5 x6 x7
 obtain ⟨x0,x1,x2,x3,x4,x5,x6,x7⟩:=HCX.out w2 HR2.out.2.2.1
 go_wp2_with fail
 refine (HT.out _).mono ?_
 rintro e3 w3 h3
 obtain ⟨A3,m3,c3,rfl,HS3,hb3⟩:=givesB_src h3
 have hm3:m3≤33:=Nat.le_trans (Nat.le_of_eq HS3.out.1.symm) h33
 have H3:=Lib.hid (HR2.out.bel hb3)
 clear h3 hb3 x0 x1 x2 x3 x4 x5 x6 x7
 obtain ⟨x0,x1,x2,x3,x4,x5,x6,x7⟩:=HCX.out w3 H3.out.2.2.1
 go_wp2_with (at_builtin;refine app8 rfl (.tmp 18) (.tmp 21) rfl H3.out (by rfl) HS3.out (by rfl) (by omega) ?_;intro A4 c4 w4 H4;clear x0 x1 x2 x3 x4 x5 x6 x7;obtain ⟨x0,x1,x2,x3,x4,x5,x6,x7⟩:=HCX.out w4 H4.out.2.2.1)
 have HS4:=Lib.hid (fun V (hV:Bel WE V)=>HCX.out V hV)
 clear x0 x1 x2 x3 x4 x5 x6 x7
 refine wp_region_noPanic ?_
 refine wp_region_held_drew (S:=(fun V:World=>V.cell? ⟨w.heap.size,0,none⟩=some (.int .i64 2)∧V.cell? ⟨w.heap.size,1,none⟩=some (.string t)∧V.cell? ⟨w.heap.size,2,none⟩=some (.slice Ac c.length cc)∧V.cell? ⟨w.heap.size,3,none⟩=some (.slice Ak ky.length ck)∧V.cell? ⟨w.heap.size,4,none⟩=some (.slice Au u.length cu)∧V.cell? ⟨w.heap.size,5,none⟩=some (.slice Ao o.length co)∧V.cell? ⟨w.heap.size,6,none⟩=some (.slice An n.length cn)∧V.cell? ⟨w.heap.size,7,none⟩=some (.slice As ns.length cs))) (by kernel_rfl) ?_ (fun hHr1_0=>?_)
 ·(try dsimp only);(first | assumption | exact HS4.out _ (H4.out.2.2.1.drew) | exact HS4.out _ H5.out.2.2.1 | exact HS4.out _ H6.out.2.2.1 | exact HS4.out _ H7.out.2.2.1 | exact HS4.out _ H8.out.2.2.1 | exact HS4.out _ H9.out.2.2.1 | exact HS4.out _ H10.out.2.2.1)
 refine tk 0 ?_
 refine tk 1 ?_
 refine tk 2 ?_
 refine tk 6 ?_
 refine tk 7 ?_
 refine rd1 3 (fun K hK=>?_)
 go_simp
 (go_at_call 31;refine (HKo.out _ (HBE.out.then_ H4.out.2.2.1.drew)).mono ?_;rintro e5 w5 ⟨rfl,hb5⟩;have H5:=Lib.hid (H4.out.bel ((Bel.refl w4).drew.then_ hb5));clear hb5)
 try (go_wp2_with fail)
 refine hK.out _ _ ?_ (fun hHr1_1=>?_)
 ·(try dsimp only);(first | assumption | exact HS4.out _ (H4.out.2.2.1.drew) | exact HS4.out _ H5.out.2.2.1 | exact HS4.out _ H6.out.2.2.1 | exact HS4.out _ H7.out.2.2.1 | exact HS4.out _ H8.out.2.2.1 | exact HS4.out _ H9.out.2.2.1 | exact HS4.out _ H10.out.2.2.1)
 clear hK K hHr1_0
 try simp only [tkp0,tkp1,tkp2,tkp3,tkp4,tkp5,tkp6,tkp7]
 refine rd1 4 (fun K hK=>?_)
 go_simp
 (go_at_call 30;refine (HTo.out _).mono ?_;rintro e6 w6 h6;obtain ⟨A6,m6,c6,rfl,HS6,hb6⟩:=givesB_src h6;have hm6:m6≤1909:=Nat.le_trans (Nat.le_of_eq HS6.out.1.symm) h19o;have H6:=Lib.hid (H5.out.bel hb6);clear h6 hb6)
 try (go_wp2_with fail)
 refine hK.out _ _ ?_ (fun hHr1_2=>?_)
 ·(try dsimp only);(first | assumption | exact HS4.out _ (H4.out.2.2.1.drew) | exact HS4.out _ H5.out.2.2.1 | exact HS4.out _ H6.out.2.2.1 | exact HS4.out _ H7.out.2.2.1 | exact HS4.out _ H8.out.2.2.1 | exact HS4.out _ H9.out.2.2.1 | exact HS4.out _ H10.out.2.2.1)
 clear hK K hHr1_1
 try simp only [tkp0,tkp1,tkp2,tkp3,tkp4,tkp5,tkp6,tkp7]
 refine rd1 5 (fun K hK=>?_)
 rw [if_pos (by first | rfl | kernel_rfl)]
 (refine app8k (lo:=0) (hi:=0) (.tmp 35) (.tmp 39) rfl H6.out (by rfl) HS6.out (by rfl) (by omega) (fun _ _=>.inr (Nat.zero_le _)) (Nat.zero_le _) ?_;intro A7 c7 w7 H7 _)
 refine hK.out _ _ ?_ (fun hHr1_3=>?_)
 ·(try dsimp only);(first | assumption | exact HS4.out _ (H4.out.2.2.1.drew) | exact HS4.out _ H5.out.2.2.1 | exact HS4.out _ H6.out.2.2.1 | exact HS4.out _ H7.out.2.2.1 | exact HS4.out _ H8.out.2.2.1 | exact HS4.out _ H9.out.2.2.1 | exact HS4.out _ H10.out.2.2.1)
 clear hK K hHr1_2
 try simp only [tkp0,tkp1,tkp2,tkp3,tkp4,tkp5,tkp6,tkp7]
 refine rd1 8 (fun K hK=>?_)
 go_simp
 (go_at_call 31;refine (HKn.out _ (HBE.out.then_ H7.out.2.2.1)).mono ?_;rintro e8 w8 ⟨rfl,hb8⟩;have H8:=Lib.hid (H7.out.bel hb8);clear hb8)
 try (go_wp2_with fail)
 refine hK.out _ _ ?_ (fun hHr1_4=>?_)
 ·(try dsimp only);(first | assumption | exact HS4.out _ (H4.out.2.2.1.drew) | exact HS4.out _ H5.out.2.2.1 | exact HS4.out _ H6.out.2.2.1 | exact HS4.out _ H7.out.2.2.1 | exact HS4.out _ H8.out.2.2.1 | exact HS4.out _ H9.out.2.2.1 | exact HS4.out _ H10.out.2.2.1)
 clear hK K hHr1_3
 try simp only [tkp0,tkp1,tkp2,tkp3,tkp4,tkp5,tkp6,tkp7]
 refine rd1 9 (fun K hK=>?_)
 go_simp
 (go_at_call 30;refine (HTn.out _).mono ?_;rintro e9 w9 h9';obtain ⟨A9,m9,c9,rfl,HS9,hb9⟩:=givesB_src h9';have hm9:m9≤1909:=Nat.le_trans (Nat.le_of_eq HS9.out.1.symm) h19n;have H9:=Lib.hid (H8.out.bel hb9);clear h9' hb9)
 try (go_wp2_with fail)
 refine hK.out _ _ ?_ (fun hHr1_5=>?_)
 ·(try dsimp only);(first | assumption | exact HS4.out _ (H4.out.2.2.1.drew) | exact HS4.out _ H5.out.2.2.1 | exact HS4.out _ H6.out.2.2.1 | exact HS4.out _ H7.out.2.2.1 | exact HS4.out _ H8.out.2.2.1 | exact HS4.out _ H9.out.2.2.1 | exact HS4.out _ H10.out.2.2.1)
 clear hK K hHr1_4
 try simp only [tkp0,tkp1,tkp2,tkp3,tkp4,tkp5,tkp6,tkp7]
 refine rd1 10 (fun K hK=>?_)
 rw [if_pos (by first | rfl | kernel_rfl)]
 (refine app8k (lo:=0) (hi:=0) (.tmp 40) (.tmp 44) rfl H9.out (by rfl) HS9.out (by rfl) (by omega) (fun _ _=>.inr (Nat.zero_le _)) (Nat.zero_le _) ?_;intro A10 c10 w10 H10 _)
 refine hK.out _ _ ?_ (fun hHr1_6=>?_)
 ·(try dsimp only);(first | assumption | exact HS4.out _ (H4.out.2.2.1.drew) | exact HS4.out _ H5.out.2.2.1 | exact HS4.out _ H6.out.2.2.1 | exact HS4.out _ H7.out.2.2.1 | exact HS4.out _ H8.out.2.2.1 | exact HS4.out _ H9.out.2.2.1 | exact HS4.out _ H10.out.2.2.1)
 clear hK K hHr1_5
 try simp only [tkp0,tkp1,tkp2,tkp3,tkp4,tkp5,tkp6,tkp7]
 refine tk 11 ?_
 refine wpAnyH_done (by kernel_rfl) ?_ _
 refine NoPanic.normal ?_
 go_wp2
 go_ret2
 obtain ⟨v,hv,hbs,hbb⟩:=H10.out.gives
 rw [← HEN.out] at hbs
 exact ⟨v,by rw [← hv];rfl,hbs,HBE.out.then_ hbb⟩
set_option maxRecDepth 100000 in
set_option maxHeartbeats 8000000 in
theorem r8Encode_3 (t:ByteArray) (c:List Col) (ky:List Int) (u:List (List Int)) (o n:List Val) (ns:List (ByteArray×ByteArray)) (vc vk vu vo vn vs:Value) (w:World) (hr:rightE ⟨3,t,c,ky,u,o,n,ns⟩=true) (hw:Ev.Wf ⟨3,t,c,ky,u,o,n,ns⟩) (hsz:Ev.Sz ⟨3,t,c,ky,u,o,n,ns⟩) (hlen:c.length≤1000000∧ky.length≤1000000∧u.length≤1000000) (h:EvAt w vc vk vu vo vn vs ⟨3,t,c,ky,u,o,n,ns⟩) :
  Calls Tryz.prog 12 #[evV 3 t vc vk vu vo vn vs] w (GivesE8 ⟨3,t,c,ky,u,o,n,ns⟩ w):=by
 have HRI:=Lib.hid (fun V (hV:Bel w V)=>r8Right_any ⟨3,t,c,ky,u,o,n,ns⟩ vc vk vu vo vn vs V hsz hlen (h.bel hV))
 rw [hr] at HRI
 have hen:encER ⟨3,t,c,ky,u,o,n,ns⟩=(encE ⟨3,t,c,ky,u,o,n,ns⟩,0):=by unfold encER;rw [if_pos hr]
 unfold GivesE8
 rw [hen]
 obtain ⟨-,-,hmay,-⟩:=rightE_parts hr
 have hnm:namedB t=true:=List.all_eq_true.1 hmay 0 (show (0:Nat) ∈ partsOf 3 by decide)
 have ht24:=(named_size hnm).2
 have HT:=Lib.hid (fun V=>r8text_any t (by omega) V)
 have h33:=textB_len ht24
 have HNU:=Lib.hid (fun V=>r2Number_any 3 (by omega) V)
 have h9:=numB_9 (n:=3) (by omega)
 have hro:=rowB_parts (l:=o) (List.all_eq_true.1 hmay 3 (show (3:Nat) ∈ partsOf 3 by decide))
 have hwo : ∀ x ∈ o,x.Wf:=fun x hx=>hw x (List.mem_append_left _ hx)
 have hlo:=rowB_len (l:=o) (List.all_eq_true.1 hmay 3 (show (3:Nat) ∈ partsOf 3 by decide)) hwo
 have HKo:=Lib.hid (fun V (hV:Bel w V)=>krKey_any vo o V (h.o.bel hV) (fun x hx=>⟨hro.2.2 x hx,hwo x hx⟩) (by omega))
 unfold strV at HKo
 have HTo:=Lib.hid (fun V=>r8textL_any (keyL o) (by omega) V)
 have h19o:=textB_1900 (s:=keyL o) (by omega)
 have HEN:Hid (encE ⟨3,t,c,ky,u,o,n,ns⟩=(numB 3 ++ textB t.data.toList) ++ textB (keyL o)):=Lib.hid (by unfold encE partsOf;simp [layP])
 generalize keyL o=Ko at HKo HTo h19o HEN
 generalize encE ⟨3,t,c,ky,u,o,n,ns⟩=EE at HEN ⊢
 obtain ⟨Ac,cc,Ak,ck,Au,cu,Ao,co,An,cn,As,cs,rfl,rfl,rfl,rfl,rfl,rfl⟩:=h.opened
 clear h hsz hlen hr hw hen hmay hnm hro hwo hlo
 unfold evV at *
 dsimp only at *
 obtain ⟨WE,hWE⟩ : ∃ W,W=w.alloc (.cells #[.int .i64 3,.string t,.slice Ac c.length cc,.slice Ak ky.length ck,.slice Au u.length cu,.slice Ao o.length co,.slice An n.length cn,.slice As ns.length cs] 31):=⟨_,rfl⟩
 have HBX:Hid (Blk WE w.heap.size 31 #[.int .i64 3,.string t,.slice Ac c.length cc,.slice Ak ky.length ck,.slice Au u.length cu,.slice Ao o.length co,.slice An n.length cn,.slice As ns.length cs]):=Lib.hid (by rw [hWE];exact Blk.new w _ _)
 have HBE:Hid (Bel w WE):=Lib.hid (by rw [hWE];exact (Bel.refl w).alloc _)
 have HCX:Hid (∀ V,Bel WE V→(V.cell? ⟨w.heap.size,0,none⟩=some (.int .i64 3)∧V.cell? ⟨w.heap.size,1,none⟩=some (.string t)∧V.cell? ⟨w.heap.size,2,none⟩=some (.slice Ac c.length cc)∧V.cell? ⟨w.heap.size,3,none⟩=some (.slice Ak ky.length ck)∧V.cell? ⟨w.heap.size,4,none⟩=some (.slice Au u.length cu)∧V.cell? ⟨w.heap.size,5,none⟩=some (.slice Ao o.length co)∧V.cell? ⟨w.heap.size,6,none⟩=some (.slice An n.length cn)∧V.cell? ⟨w.heap.size,7,none⟩=some (.slice As ns.length cs))) :=
  Lib.hid (fun V hV=>by have h:=HBX.out.below hV HBX.out.lt;exact ⟨h.cell 0,h.cell 1,h.cell 2,h.cell 3,h.cell 4,h.cell 5,h.cell 6,h.cell 7⟩)
 go_enter Tryz.func12,Tryz.ntmps12
 go_wp2_with fail
 rw [← hWE]
 clear hWE
 refine (HRI.out _ HBE.out).mono ?_
 rintro e1 w1 ⟨rfl,hb1⟩
 have HB1:=Lib.hid hb1
 obtain ⟨x0,x1,x2,x3,x4,x5,x6,x7⟩:=HCX.out w1 hb1
 clear hb1
 go_wp2_with fail
 refine (HNU.out _).mono ?_
 rintro e2 w2 h2
 obtain ⟨A2,m2,c2,rfl,HR2,hb2⟩:=givesB_row HB1.out h2
 have hm2:m2≤9:=Nat.le_trans (Nat.le_of_eq HR2.out.1.symm) h9
 clear h2 hb2 x0 x1 x2 x3 x4 x5 x6 x7
 obtain ⟨x0,x1,x2,x3,x4,x5,x6,x7⟩:=HCX.out w2 HR2.out.2.2.1
 go_wp2_with fail
 refine (HT.out _).mono ?_
 rintro e3 w3 h3
 obtain ⟨A3,m3,c3,rfl,HS3,hb3⟩:=givesB_src h3
 have hm3:m3≤33:=Nat.le_trans (Nat.le_of_eq HS3.out.1.symm) h33
 have H3:=Lib.hid (HR2.out.bel hb3)
 clear h3 hb3 x0 x1 x2 x3 x4 x5 x6 x7
 obtain ⟨x0,x1,x2,x3,x4,x5,x6,x7⟩:=HCX.out w3 H3.out.2.2.1
 go_wp2_with (at_builtin;refine app8 rfl (.tmp 18) (.tmp 21) rfl H3.out (by rfl) HS3.out (by rfl) (by omega) ?_;intro A4 c4 w4 H4;clear x0 x1 x2 x3 x4 x5 x6 x7;obtain ⟨x0,x1,x2,x3,x4,x5,x6,x7⟩:=HCX.out w4 H4.out.2.2.1)
 refine (HKo.out _ (HBE.out.then_ H4.out.2.2.1)).mono ?_
 rintro e5 w5 ⟨rfl,hb5⟩
 have H5:=Lib.hid (H4.out.bel hb5)
 clear hb5 x0 x1 x2 x3 x4 x5 x6 x7
 obtain ⟨x0,x1,x2,x3,x4,x5,x6,x7⟩:=HCX.out w5 H5.out.2.2.1
 go_wp2_with fail
 refine (HTo.out _).mono ?_
 rintro e6 w6 h6
 obtain ⟨A6,m6,c6,rfl,HS6,hb6⟩:=givesB_src h6
 have hm6:m6≤1909:=Nat.le_trans (Nat.le_of_eq HS6.out.1.symm) h19o
 have H6:=Lib.hid (H5.out.bel hb6)
 clear h6 hb6 x0 x1 x2 x3 x4 x5 x6 x7
 obtain ⟨x0,x1,x2,x3,x4,x5,x6,x7⟩:=HCX.out w6 H6.out.2.2.1
 go_wp2_with (at_builtin;refine app8 rfl (.tmp 48) (.tmp 52) rfl H6.out (by rfl) HS6.out (by rfl) (by omega) ?_;intro A7 c7 w7 H7)
 go_ret2
 obtain ⟨v,hv,hbs,hbb⟩:=H7.out.gives
 rw [← HEN.out] at hbs
 exact ⟨v,by rw [← hv];rfl,hbs,HBE.out.then_ hbb⟩
set_option maxRecDepth 100000 in
set_option maxHeartbeats 8000000 in
theorem r8Encode_4 (t:ByteArray) (c:List Col) (ky:List Int) (u:List (List Int)) (o n:List Val) (ns:List (ByteArray×ByteArray)) (vc vk vu vo vn vs:Value) (w:World) (hr:rightE ⟨4,t,c,ky,u,o,n,ns⟩=true) (hw:Ev.Wf ⟨4,t,c,ky,u,o,n,ns⟩) (hsz:Ev.Sz ⟨4,t,c,ky,u,o,n,ns⟩) (hlen:c.length≤1000000∧ky.length≤1000000∧u.length≤1000000) (h:EvAt w vc vk vu vo vn vs ⟨4,t,c,ky,u,o,n,ns⟩) :
  Calls Tryz.prog 12 #[evV 4 t vc vk vu vo vn vs] w (GivesE8 ⟨4,t,c,ky,u,o,n,ns⟩ w):=by
 have HRI:=Lib.hid (fun V (hV:Bel w V)=>r8Right_any ⟨4,t,c,ky,u,o,n,ns⟩ vc vk vu vo vn vs V hsz hlen (h.bel hV))
 rw [hr] at HRI
 have hen:encER ⟨4,t,c,ky,u,o,n,ns⟩=(encE ⟨4,t,c,ky,u,o,n,ns⟩,0):=by unfold encER;rw [if_pos hr]
 unfold GivesE8
 rw [hen]
 obtain ⟨-,-,hmay,-⟩:=rightE_parts hr
 have hnm:namedB t=true:=List.all_eq_true.1 hmay 0 (show (0:Nat) ∈ partsOf 4 by decide)
 have ht24:=(named_size hnm).2
 have HT:=Lib.hid (fun V=>r8text_any t (by omega) V)
 have h33:=textB_len ht24
 have HNU:=Lib.hid (fun V=>r2Number_any 4 (by omega) V)
 have h9:=numB_9 (n:=4) (by omega)
 have hrs:rightS c ky u=true:=List.all_eq_true.1 hmay 1 (show (1:Nat) ∈ partsOf 4 by decide)
 have HSC:=Lib.hid (fun V (hV:Bel w V)=>r4EncodeSchema_any vc vk vu c ky u V (h.c.bel hV) (h.ky.bel hV) (h.u.bel hV) (fun x hx=>by have:x.name.size≤9223372036854775807:=hsz.c x hx;omega))
 unfold encSR at HSC
 simp only [hrs,if_true] at HSC
 have hsm:=encSch_small hrs
 have HXT:=Lib.hid (fun V=>r8textL_any (encSch c ky u) (by omega) V)
 have h19:=textB_1900 (s:=encSch c ky u) (by omega)
 have HEN:Hid (encE ⟨4,t,c,ky,u,o,n,ns⟩=(numB 4 ++ textB t.data.toList) ++ textB (encSch c ky u)):=Lib.hid (by unfold encE partsOf;simp [layP])
 generalize encSch c ky u=SB at HSC HXT h19 HEN
 generalize encE ⟨4,t,c,ky,u,o,n,ns⟩=EE at HEN ⊢
 obtain ⟨Ac,cc,Ak,ck,Au,cu,Ao,co,An,cn,As,cs,rfl,rfl,rfl,rfl,rfl,rfl⟩:=h.opened
 clear h hsz hlen hr hw hen hmay hnm hrs hsm
 unfold evV at *
 dsimp only at *
 obtain ⟨WE,hWE⟩ : ∃ W,W=w.alloc (.cells #[.int .i64 4,.string t,.slice Ac c.length cc,.slice Ak ky.length ck,.slice Au u.length cu,.slice Ao o.length co,.slice An n.length cn,.slice As ns.length cs] 31):=⟨_,rfl⟩
 have HBX:Hid (Blk WE w.heap.size 31 #[.int .i64 4,.string t,.slice Ac c.length cc,.slice Ak ky.length ck,.slice Au u.length cu,.slice Ao o.length co,.slice An n.length cn,.slice As ns.length cs]):=Lib.hid (by rw [hWE];exact Blk.new w _ _)
 have HBE:Hid (Bel w WE):=Lib.hid (by rw [hWE];exact (Bel.refl w).alloc _)
 have HCX:Hid (∀ V,Bel WE V→(V.cell? ⟨w.heap.size,0,none⟩=some (.int .i64 4)∧V.cell? ⟨w.heap.size,1,none⟩=some (.string t)∧V.cell? ⟨w.heap.size,2,none⟩=some (.slice Ac c.length cc)∧V.cell? ⟨w.heap.size,3,none⟩=some (.slice Ak ky.length ck)∧V.cell? ⟨w.heap.size,4,none⟩=some (.slice Au u.length cu)∧V.cell? ⟨w.heap.size,5,none⟩=some (.slice Ao o.length co)∧V.cell? ⟨w.heap.size,6,none⟩=some (.slice An n.length cn)∧V.cell? ⟨w.heap.size,7,none⟩=some (.slice As ns.length cs))) :=
  Lib.hid (fun V hV=>by have h:=HBX.out.below hV HBX.out.lt;exact ⟨h.cell 0,h.cell 1,h.cell 2,h.cell 3,h.cell 4,h.cell 5,h.cell 6,h.cell 7⟩)
 go_enter Tryz.func12,Tryz.ntmps12
 go_wp2_with fail
 rw [← hWE]
 clear hWE
 refine (HRI.out _ HBE.out).mono ?_
 rintro e1 w1 ⟨rfl,hb1⟩
 have HB1:=Lib.hid hb1
 obtain ⟨x0,x1,x2,x3,x4,x5,x6,x7⟩:=HCX.out w1 hb1
 clear hb1
 go_wp2_with fail
 refine (HNU.out _).mono ?_
 rintro e2 w2 h2
 obtain ⟨A2,m2,c2,rfl,HR2,hb2⟩:=givesB_row HB1.out h2
 have hm2:m2≤9:=Nat.le_trans (Nat.le_of_eq HR2.out.1.symm) h9
 clear h2 hb2 x0 x1 x2 x3 x4 x5 x6 x7
 obtain ⟨x0,x1,x2,x3,x4,x5,x6,x7⟩:=HCX.out w2 HR2.out.2.2.1
 go_wp2_with fail
 refine (HT.out _).mono ?_
 rintro e3 w3 h3
 obtain ⟨A3,m3,c3,rfl,HS3,hb3⟩:=givesB_src h3
 have hm3:m3≤33:=Nat.le_trans (Nat.le_of_eq HS3.out.1.symm) h33
 have H3:=Lib.hid (HR2.out.bel hb3)
 clear h3 hb3 x0 x1 x2 x3 x4 x5 x6 x7
 obtain ⟨x0,x1,x2,x3,x4,x5,x6,x7⟩:=HCX.out w3 H3.out.2.2.1
 go_wp2_with (at_builtin;refine app8 rfl (.tmp 18) (.tmp 21) rfl H3.out (by rfl) HS3.out (by rfl) (by omega) ?_;intro A4 c4 w4 H4;clear x0 x1 x2 x3 x4 x5 x6 x7;obtain ⟨x0,x1,x2,x3,x4,x5,x6,x7⟩:=HCX.out w4 H4.out.2.2.1)
 refine (HSC.out _ (HBE.out.then_ H4.out.2.2.1)).mono ?_
 rintro e5 w5 ⟨v5,rfl,⟨A5,c5,rfl,g1,g2,g3⟩,hb5⟩
 have hcv:=conv_reads c5 g3
 unfold strV at hcv
 have H5:=Lib.hid (H4.out.bel hb5)
 clear hb5 g1 g2 g3 x0 x1 x2 x3 x4 x5 x6 x7
 obtain ⟨x0,x1,x2,x3,x4,x5,x6,x7⟩:=HCX.out w5 H5.out.2.2.1
 go_wp2_with fail
 refine (HXT.out _).mono ?_
 rintro e6 w6 h6
 obtain ⟨A6,m6,c6,rfl,HS6,hb6⟩:=givesB_src h6
 have hm6:m6≤1909:=Nat.le_trans (Nat.le_of_eq HS6.out.1.symm) h19
 have H6:=Lib.hid (H5.out.bel hb6)
 clear h6 hb6 x0 x1 x2 x3 x4 x5 x6 x7
 obtain ⟨x0,x1,x2,x3,x4,x5,x6,x7⟩:=HCX.out w6 H6.out.2.2.1
 go_wp2_with (at_builtin;refine app8 rfl (.tmp 62) (.tmp 65) rfl H6.out (by rfl) HS6.out (by rfl) (by omega) ?_;intro A7 c7 w7 H7)
 go_ret2
 obtain ⟨v,hv,hbs,hbb⟩:=H7.out.gives
 rw [← HEN.out] at hbs
 exact ⟨v,by rw [← hv];rfl,hbs,HBE.out.then_ hbb⟩
set_option maxRecDepth 100000 in
set_option maxHeartbeats 8000000 in
theorem r8Encode_5 (t:ByteArray) (c:List Col) (ky:List Int) (u:List (List Int)) (o n:List Val) (ns:List (ByteArray×ByteArray)) (vc vk vu vo vn vs:Value) (w:World) (hr:rightE ⟨5,t,c,ky,u,o,n,ns⟩=true) (hw:Ev.Wf ⟨5,t,c,ky,u,o,n,ns⟩) (hsz:Ev.Sz ⟨5,t,c,ky,u,o,n,ns⟩) (hlen:c.length≤1000000∧ky.length≤1000000∧u.length≤1000000) (h:EvAt w vc vk vu vo vn vs ⟨5,t,c,ky,u,o,n,ns⟩) :
  Calls Tryz.prog 12 #[evV 5 t vc vk vu vo vn vs] w (GivesE8 ⟨5,t,c,ky,u,o,n,ns⟩ w):=by
 have HRI:=Lib.hid (fun V (hV:Bel w V)=>r8Right_any ⟨5,t,c,ky,u,o,n,ns⟩ vc vk vu vo vn vs V hsz hlen (h.bel hV))
 rw [hr] at HRI
 have hen:encER ⟨5,t,c,ky,u,o,n,ns⟩=(encE ⟨5,t,c,ky,u,o,n,ns⟩,0):=by unfold encER;rw [if_pos hr]
 unfold GivesE8
 rw [hen]
 obtain ⟨-,-,hmay,-⟩:=rightE_parts hr
 have hnm:namedB t=true:=List.all_eq_true.1 hmay 0 (show (0:Nat) ∈ partsOf 5 by decide)
 have ht24:=(named_size hnm).2
 have HT:=Lib.hid (fun V=>r8text_any t (by omega) V)
 have h33:=textB_len ht24
 have HNU:=Lib.hid (fun V=>r2Number_any 5 (by omega) V)
 have h9:=numB_9 (n:=5) (by omega)
 have HEN:Hid (encE ⟨5,t,c,ky,u,o,n,ns⟩=numB 5 ++ textB t.data.toList):=Lib.hid (by unfold encE partsOf;simp [layP])
 generalize encE ⟨5,t,c,ky,u,o,n,ns⟩=EE at HEN ⊢
 obtain ⟨Ac,cc,Ak,ck,Au,cu,Ao,co,An,cn,As,cs,rfl,rfl,rfl,rfl,rfl,rfl⟩:=h.opened
 clear h hsz hlen hr hw hen hmay hnm
 unfold evV at *
 dsimp only at *
 obtain ⟨WE,hWE⟩ : ∃ W,W=w.alloc (.cells #[.int .i64 5,.string t,.slice Ac c.length cc,.slice Ak ky.length ck,.slice Au u.length cu,.slice Ao o.length co,.slice An n.length cn,.slice As ns.length cs] 31):=⟨_,rfl⟩
 have HBX:Hid (Blk WE w.heap.size 31 #[.int .i64 5,.string t,.slice Ac c.length cc,.slice Ak ky.length ck,.slice Au u.length cu,.slice Ao o.length co,.slice An n.length cn,.slice As ns.length cs]):=Lib.hid (by rw [hWE];exact Blk.new w _ _)
 have HBE:Hid (Bel w WE):=Lib.hid (by rw [hWE];exact (Bel.refl w).alloc _)
 have HCX:Hid (∀ V,Bel WE V→(V.cell? ⟨w.heap.size,0,none⟩=some (.int .i64 5)∧V.cell? ⟨w.heap.size,1,none⟩=some (.string t)∧V.cell? ⟨w.heap.size,2,none⟩=some (.slice Ac c.length cc)∧V.cell? ⟨w.heap.size,3,none⟩=some (.slice Ak ky.length ck)∧V.cell? ⟨w.heap.size,4,none⟩=some (.slice Au u.length cu)∧V.cell? ⟨w.heap.size,5,none⟩=some (.slice Ao o.length co)∧V.cell? ⟨w.heap.size,6,none⟩=some (.slice An n.length cn)∧V.cell? ⟨w.heap.size,7,none⟩=some (.slice As ns.length cs))) :=
  Lib.hid (fun V hV=>by have h:=HBX.out.below hV HBX.out.lt;exact ⟨h.cell 0,h.cell 1,h.cell 2,h.cell 3,h.cell 4,h.cell 5,h.cell 6,h.cell 7⟩)
 go_enter Tryz.func12,Tryz.ntmps12
 go_wp2_with fail
 rw [← hWE]
 clear hWE
 refine (HRI.out _ HBE.out).mono ?_
 rintro e1 w1 ⟨rfl,hb1⟩
 have HB1:=Lib.hid hb1
 obtain ⟨x0,x1,x2,x3,x4,x5,x6,x7⟩:=HCX.out w1 hb1
 clear hb1
 go_wp2_with fail
 refine (HNU.out _).mono ?_
 rintro e2 w2 h2
 obtain ⟨A2,m2,c2,rfl,HR2,hb2⟩:=givesB_row HB1.out h2
 have hm2:m2≤9:=Nat.le_trans (Nat.le_of_eq HR2.out.1.symm) h9
 clear h2 hb2 x0 x1 x2 x3 x4 x5 x6 x7
 obtain ⟨x0,x1,x2,x3,x4,x5,x6,x7⟩:=HCX.out w2 HR2.out.2.2.1
 go_wp2_with fail
 refine (HT.out _).mono ?_
 rintro e3 w3 h3
 obtain ⟨A3,m3,c3,rfl,HS3,hb3⟩:=givesB_src h3
 have hm3:m3≤33:=Nat.le_trans (Nat.le_of_eq HS3.out.1.symm) h33
 have H3:=Lib.hid (HR2.out.bel hb3)
 clear h3 hb3 x0 x1 x2 x3 x4 x5 x6 x7
 obtain ⟨x0,x1,x2,x3,x4,x5,x6,x7⟩:=HCX.out w3 H3.out.2.2.1
 go_wp2_with (at_builtin;refine app8 rfl (.tmp 18) (.tmp 21) rfl H3.out (by rfl) HS3.out (by rfl) (by omega) ?_;intro A4 c4 w4 H4;clear x0 x1 x2 x3 x4 x5 x6 x7;obtain ⟨x0,x1,x2,x3,x4,x5,x6,x7⟩:=HCX.out w4 H4.out.2.2.1)
 go_ret2
 obtain ⟨v,hv,hbs,hbb⟩:=H4.out.gives
 rw [← HEN.out] at hbs
 exact ⟨v,by rw [← hv];rfl,hbs,HBE.out.then_ hbb⟩
end
end Go.Proofs.YtnajjhgbombboaaGreatDoor
