/-
  Texts behind the statement: part 22.
-/
import Derived.Test.YtnajjhgbombboaaGreatDoorP20
import Derived.OwnWalkIn
set_option linter.unusedVariables false
set_option linter.unusedSimpArgs false
namespace Go.Proofs.YtnajjhgbombboaaGreatDoor
section
open Go.RowKit Go.Shelf Go.Lib
attribute [local go_sem] Oper.semAt_some
theorem GivesB.up {s:List UInt8} {w V w':World} {e:Ending} (hb:Bel w V) (h:GivesB s V e w'):GivesB s w e w':=by
 obtain ⟨A,c,he,hr,hb'⟩:=h
 exact ⟨A,c,he,ownsRow_less hr hb.size,hb.then_ hb'⟩
theorem elay_table (e:Ev) (vc vk vu vo vn vs:Value) (w:World) (hm:e.t.size≤1000000) (h:EvAt w vc vk vu vo vn vs e):Calls Tryz.prog 101 #[evV e.k e.t vc vk vu vo vn vs] w (GivesB (layP e 0) w):=by
 have hl:layP e 0=textB e.t.data.toList:=rfl
 rw [hl]
 have HN:=Lib.hid (fun V=>etext_any e.t hm V)
 obtain ⟨Ac,cc,Ak,ck,Au,cu,Ao,co,An,cn,As,cs,rfl,rfl,rfl,rfl,rfl,rfl⟩:=h.opened
 clear h hl
 obtain ⟨k,t,c,ky,u,o,n,ns⟩:=e
 unfold evV
 dsimp only at *
 go_enter Tryz.func101,Tryz.ntmps101
 go_wp2_with fail
 refine (HN.out _).mono ?_
 rintro e1 w1 ⟨A,c,rfl,hr,hb1⟩
 go_wp2
 go_ret
 exact GivesB.up ((Bel.refl w).alloc _) ⟨A,c,rfl,hr,hb1⟩
theorem elay_shape (e:Ev) (vc vk vu vo vn vs:Value) (w:World) (hr:rightS e.c e.ky e.u=true) (h:EvAt w vc vk vu vo vn vs e):Calls Tryz.prog 105 #[evV e.k e.t vc vk vu vo vn vs] w (GivesB (layP e 1) w):=by
 have hl:layP e 1=textB (encSch e.c e.ky e.u):=rfl
 rw [hl]
 have HC:=Lib.hid (fun V (hb:Bel w V)=>cdEncodeSchema_any vc vk vu e.c e.ky e.u V (h.c.bel hb) (h.ky.bel hb) (h.u.bel hb))
 unfold encSR at HC
 simp only [hr,if_true] at HC
 have hsm:=encSch_small hr
 have HN:=Lib.hid (fun V=>etext_any ⟨(encSch e.c e.ky e.u).toArray⟩ (by show (encSch e.c e.ky e.u).toArray.size≤_;rw [List.size_toArray];omega) V)
 dsimp only at HN
 obtain ⟨S,hS⟩ : ∃ S,S=encSch e.c e.ky e.u:=⟨_,rfl⟩
 rw [← hS] at HC HN ⊢
 obtain ⟨Ac,cc,Ak,ck,Au,cu,Ao,co,An,cn,As,cs,rfl,rfl,rfl,rfl,rfl,rfl⟩:=h.opened
 clear h hl hr hsm hS
 obtain ⟨k,t,c,ky,u,o,n,ns⟩:=e
 unfold evV
 dsimp only at *
 go_enter Tryz.func105,Tryz.ntmps105
 go_wp2_with fail
 refine (HC.out _ ((Bel.refl w).alloc _)).mono ?_
 rintro e1 w1 ⟨v,rfl,⟨A1,c1,rfl,h1,h2,h3⟩,hb1⟩
 have hcv:=conv_reads c1 h3
 unfold strV at hcv
 have HB1:=Lib.hid (((Bel.refl w).alloc (.cells #[.int .i64 k,.string t,.slice Ac c.length cc,.slice Ak ky.length ck,.slice Au u.length cu,.slice Ao o.length co,.slice An n.length cn,.slice As ns.length cs] 31)).then_ hb1)
 clear hb1 h3
 go_wp2_with fail
 refine (HN.out _).mono ?_
 rintro e1 w2 ⟨A,c,rfl,hr,hb2⟩
 go_wp2
 go_ret
 exact GivesB.up HB1.out ⟨A,c,rfl,hr,hb2⟩
theorem elay_old (bx:Nat) (e:Ev) (vc vk vu vo vn vs:Value) (w:World) (hx:Blk w bx 115 #[fnV 59]) (hr : ∀ x ∈ e.o,checkI x=0∧x.Wf) (h8:e.o.length≤8) (h:EvAt w vc vk vu vo vn vs e):Calls Tryz.prog 95 #[evV e.k e.t vc vk vu vo vn vs,.pointer (some ⟨bx,0,none⟩)] w (GivesB (layP e 3) w):=by
 have hl:layP e 3=textB (keyL e.o):=rfl
 rw [hl]
 have HK:=Lib.hid (fun V (hb:Bel w V)=>kyEncode_any vo e.o V (h.o.bel hb) hr h8)
 have hsm:=keyL_len hr
 have HN:=Lib.hid (fun V=>etext_any ⟨(keyL e.o).toArray⟩ (by show (keyL e.o).toArray.size≤_;rw [List.size_toArray];omega) V)
 dsimp only at HN
 obtain ⟨S,hS⟩ : ∃ S,S=keyL e.o:=⟨_,rfl⟩
 rw [← hS] at HK HN ⊢
 unfold strV at HK
 have HX:=Lib.hid hx
 obtain ⟨Ac,cc,Ak,ck,Au,cu,Ao,co,An,cn,As,cs,rfl,rfl,rfl,rfl,rfl,rfl⟩:=h.opened
 clear h hl hr hsm hS hx h8
 obtain ⟨k,t,c,ky,u,o,n,ns⟩:=e
 unfold evV
 dsimp only at *
 have HAT:=Lib.hid (fun B V=>eat_old B V)
 have hcx:w.cell? ⟨bx,0,none⟩=some (.func (.func 59) #[] #[]):=HX.out.cell 0
 have hxl:bx<w.heap.size:=HX.out.lt
 go_enter Tryz.func95,Tryz.ntmps95
 go_wp2_with (go_at_call 59;refine (HAT.out _ _).mono ?_;rintro e1 w1 ⟨rfl,rfl⟩)
 refine (HK.out _ ((Bel.refl w).alloc _)).mono ?_
 rintro e1 w1 ⟨rfl,hb1⟩
 go_wp2_with fail
 refine (HN.out _).mono ?_
 rintro e1 w2 ⟨A,c,rfl,hr,hb2⟩
 go_wp2
 go_ret
 exact GivesB.up (((Bel.refl w).alloc _).then_ hb1) ⟨A,c,rfl,hr,hb2⟩
theorem elay_new (bx:Nat) (e:Ev) (vc vk vu vo vn vs:Value) (w:World) (hx:Blk w bx 115 #[fnV 60]) (hr : ∀ x ∈ e.n,checkI x=0∧x.Wf) (h8:e.n.length≤8) (h:EvAt w vc vk vu vo vn vs e):Calls Tryz.prog 95 #[evV e.k e.t vc vk vu vo vn vs,.pointer (some ⟨bx,0,none⟩)] w (GivesB (layP e 4) w):=by
 have hl:layP e 4=textB (keyL e.n):=rfl
 rw [hl]
 have HK:=Lib.hid (fun V (hb:Bel w V)=>kyEncode_any vn e.n V (h.n.bel hb) hr h8)
 have hsm:=keyL_len hr
 have HN:=Lib.hid (fun V=>etext_any ⟨(keyL e.n).toArray⟩ (by show (keyL e.n).toArray.size≤_;rw [List.size_toArray];omega) V)
 dsimp only at HN
 obtain ⟨S,hS⟩ : ∃ S,S=keyL e.n:=⟨_,rfl⟩
 rw [← hS] at HK HN ⊢
 unfold strV at HK
 have HX:=Lib.hid hx
 obtain ⟨Ac,cc,Ak,ck,Au,cu,Ao,co,An,cn,As,cs,rfl,rfl,rfl,rfl,rfl,rfl⟩:=h.opened
 clear h hl hr hsm hS hx h8
 obtain ⟨k,t,c,ky,u,o,n,ns⟩:=e
 unfold evV
 dsimp only at *
 have HAT:=Lib.hid (fun B V=>eat_new B V)
 have hcx:w.cell? ⟨bx,0,none⟩=some (.func (.func 60) #[] #[]):=HX.out.cell 0
 have hxl:bx<w.heap.size:=HX.out.lt
 go_enter Tryz.func95,Tryz.ntmps95
 go_wp2_with (go_at_call 60;refine (HAT.out _ _).mono ?_;rintro e1 w1 ⟨rfl,rfl⟩)
 refine (HK.out _ ((Bel.refl w).alloc _)).mono ?_
 rintro e1 w1 ⟨rfl,hb1⟩
 go_wp2_with fail
 refine (HN.out _).mono ?_
 rintro e1 w2 ⟨A,c,rfl,hr,hb2⟩
 go_wp2
 go_ret
 exact GivesB.up (((Bel.refl w).alloc _).then_ hb1) ⟨A,c,rfl,hr,hb2⟩
set_option maxRecDepth 100000 in
set_option maxHeartbeats 4000000 in
theorem elay_names (e:Ev) (vc vk vu vo vn vs:Value) (w:World) (hr:namesB e.ns=true) (h:EvAt w vc vk vu vo vn vs e):Calls Tryz.prog 112 #[evV e.k e.t vc vk vu vo vn vs] w (GivesB (layP e 2) w):=by
 have hl:layP e 2=numB e.ns.length ++ encPairs e.ns:=rfl
 rw [hl]
 obtain ⟨n1,n4,hn⟩:=namesB_parts hr
 have HNM:Hid (∀ p ∈ e.ns,p.1.size≤24∧p.2.size≤24):=Lib.hid (fun p hp=>⟨(named_size (hn p hp).1).2,(named_size (hn p hp).2).2⟩)
 have HNU:=Lib.hid (fun V=>oNumberE_any e.ns.length (by omega) V)
 have h9:=numB_9 (n:=e.ns.length) (by omega)
 have HNS:=Lib.hid h.ns
 obtain ⟨Ac,cc,Ak,ck,Au,cu,Ao,co,An,cn,As,cs,rfl,rfl,rfl,rfl,rfl,rfl⟩:=h.opened
 clear h hl hr hn
 obtain ⟨k,t,c,ky,u,o,n,ns⟩:=e
 unfold evV
 dsimp only at *
 have hI4:(ns.length:Int)≤4:=by omega
 have hcv:IntKind.u64.wrap (ns.length:Int)=(ns.length:Int):=by simp only [IntKind.wrap,IntKind.bits,IntKind.signed];simp;omega
 have HRC:Hid (0<ns.length → ∃ b off,As=some ⟨b,off,none⟩ ∧ ∀ i (x:ByteArray×ByteArray),ns[i]? = some x→w.cell? ⟨b,off+i * 2,none⟩=some (.string x.1)∧w.cell? ⟨b,off+i * 2+1,none⟩=some (.string x.2)):=by
  obtain ⟨A',c',e',-,-,h'⟩:=HNS.out
  cases e'
  exact Lib.hid h'
 obtain ⟨WE,hWE⟩ : ∃ W,W=w.alloc (.cells #[.int .i64 k,.string t,.slice Ac c.length cc,.slice Ak ky.length ck,.slice Au u.length cu,.slice Ao o.length co,.slice An n.length cn,.slice As ns.length cs] 31):=⟨_,rfl⟩
 have HE7:Hid (WE.cell? ⟨w.heap.size,7,none⟩=some (.slice As ns.length cs)):=Lib.hid (by rw [hWE];exact (Blk.new w _ _).cell 7)
 have HBE:Hid (Bel w WE):=Lib.hid (by rw [hWE];exact (Bel.refl w).alloc _)
 go_enter Tryz.func112,Tryz.ntmps112
 go_wp2_with fail
 rw [← hWE]
 have e7:=HE7.out
 have hEl:w.heap.size<WE.heap.size:=by rw [hWE];simp
 clear hWE
 refine (HNU.out _).mono ?_
 rintro e1 w1 h1
 obtain ⟨A1,m1,c1,rfl,HR1,hb1⟩:=givesB_row (Bel.refl WE) h1
 have hm1:m1≤9:=Nat.le_trans (Nat.le_of_eq HR1.out.1.symm) h9
 have e7b:=hb1.c e7
 clear h1 hb1
 go_wp2
 go_loopw [3,14] (fun v i wr=>∃ (k nn:Nat) (A':Option Addr) (c':Nat),k≤ns.length∧nn≤9+100 * k∧v = .slice A' nn c'∧i = .int .i64 k∧Hid (Row8 WE WE.heap.size nn (.slice A' nn c') (numB ns.length ++ encPairs (ns.take k)) wr)) (fun v i _=>ns.length - (intOf i).toNat)
 case atStart=>exact ⟨0,_,_,_,Nat.zero_le _,by omega,rfl,rfl,by have:=HR1.out;show Row8 _ _ _ _ (numB ns.length ++ []) _;rw [List.append_nil];exact this⟩
 case round =>
  obtain ⟨k,nn,A',c',hk,hnn,rfl,rfl,HR⟩:=hrel
  by_cases hlt:k<ns.length
  ·obtain ⟨p,hp⟩ : ∃ p,ns[k]? = some p:=⟨_,List.getElem?_eq_getElem hlt⟩
   obtain ⟨bc,oc,rfl,hci⟩:=HRC.out (by omega)
   obtain ⟨p0,p1⟩:=hci k p hp
   have hbw:Bel w wr:=HBE.out.then_ HR.out.2.2.1
   have c0:=hbw.c p0
   have c1:=hbw.c p1
   have hkI:(k:Int)<ns.length:=by omega
   have htk:encPairs (ns.take (k+1))=encPairs (ns.take k) ++ encPair p:=by rw [List.take_add_one,hp];exact encPairs_app _ _
   have HTK:=Lib.hid htk
   obtain ⟨g1,g2⟩:=HNM.out p (List.mem_of_getElem? hp)
   obtain ⟨a,b⟩:=p
   dsimp only at *
   have HTA:=Lib.hid (fun V=>etext_any a (by omega) V)
   have HTB:=Lib.hid (fun V=>etext_any b (by omega) V)
   have h33a:=textB_len g1
   have h33b:=textB_len g2
   have HALD:Hid (Bel wr (wr.alloc (.cells #[.string a,.string b] 68)).drew):=Lib.hid (((Bel.refl wr).alloc _).drew)
   have HBK:Hid (Blk (wr.alloc (.cells #[.string a,.string b] 68)).drew wr.heap.size 68 #[.string a,.string b]):=Lib.hid (World.alloc_heap_new wr _)
   have HG6:Hid (Gap wr.heap.size (wr.heap.size+1) (.slice A' nn c')):=Lib.hid (HR.out.gap _)
   have HC2:Hid (∀ V,Blk V wr.heap.size 68 #[.string a,.string b]→V.cell? ⟨wr.heap.size,0,none⟩=some (.string a)∧V.cell? ⟨wr.heap.size,1,none⟩=some (.string b)):=Lib.hid (fun V h=>⟨h.cell 0,h.cell 1⟩)
   clear hp hci p0 p1 hbw htk
   go_wp2_with fail
   refine wp_region_noPanic ?_
   refine wp_region_held_drew (S:=(fun V:World=>V.cell? ⟨wr.heap.size,0,none⟩=some (.string a)∧V.cell? ⟨wr.heap.size,1,none⟩=some (.string b))) (by kernel_rfl) ?_ (fun hHr1_0=>?_)
   ·(try dsimp only);(first | assumption | exact HC2.out _ HBK.out | exact HC2.out _ hbk | exact HC2.out _ hbk9 | exact HC2.out _ hbk10 | exact HC2.out _ hbk11)
   refine tk 0 ?_
   refine tk 1 ?_
   refine tk 2 ?_
   refine tk 5 ?_
   refine tk 6 ?_
   refine rd1 3 (fun K hK=>?_)
   go_simp
   (go_at_call 53;refine (HTA.out _).mono ?_;rintro e w6 h6;obtain ⟨A6,m6,c6,rfl,HS6,hb6⟩:=givesB_src h6;have hm6:m6≤33:=Nat.le_trans (Nat.le_of_eq HS6.out.1.symm) h33a;have H6:=Lib.hid (HR.out.bel (HALD.out.then_ hb6));have hbk:=heap_bel hb6 HBK.out;have hs6:wr.heap.size+1≤w6.heap.size:=(Array.getElem?_eq_some_iff.1 hbk).1;clear h6)
   try (go_wp2_with fail)
   refine hK.out _ _ ?_ (fun hHr1_1=>?_)
   ·(try dsimp only);(first | assumption | exact HC2.out _ HBK.out | exact HC2.out _ hbk | exact HC2.out _ hbk9 | exact HC2.out _ hbk10 | exact HC2.out _ hbk11)
   clear hK K hHr1_0
   try simp only [tkp0,tkp1,tkp2,tkp3,tkp4,tkp5,tkp6,tkp7]
   refine rd1 4 (fun K hK=>?_)
   rw [if_pos (by first | rfl | kernel_rfl)]
   (refine app8k (.tmp 18) (.tmp 21) rfl H6.out (by rfl) HS6.out (by rfl) (by omega) HG6.out hs6 ?_;intro A9 c9 w9 H9 HG9;have hbk9:=(HG9.out.2 wr.heap.size (Nat.le_refl _) (Nat.lt_succ_self _)).trans hbk)
   refine hK.out _ _ ?_ (fun hHr1_2=>?_)
   ·(try dsimp only);(first | assumption | exact HC2.out _ HBK.out | exact HC2.out _ hbk | exact HC2.out _ hbk9 | exact HC2.out _ hbk10 | exact HC2.out _ hbk11)
   clear hK K hHr1_1
   try simp only [tkp0,tkp1,tkp2,tkp3,tkp4,tkp5,tkp6,tkp7]
   refine rd1 7 (fun K hK=>?_)
   go_simp
   (go_at_call 53;refine (HTB.out _).mono ?_;rintro e w10 h10;obtain ⟨A10,m10,c10,rfl,HS10,hb10⟩:=givesB_src h10;have hm10:m10≤33:=Nat.le_trans (Nat.le_of_eq HS10.out.1.symm) h33b;have H10:=Lib.hid (H9.out.bel hb10);have hbk10:=heap_bel hb10 hbk9;have hs10:wr.heap.size+1≤w10.heap.size:=(Array.getElem?_eq_some_iff.1 hbk10).1;clear h10)
   try (go_wp2_with fail)
   refine hK.out _ _ ?_ (fun hHr1_3=>?_)
   ·(try dsimp only);(first | assumption | exact HC2.out _ HBK.out | exact HC2.out _ hbk | exact HC2.out _ hbk9 | exact HC2.out _ hbk10 | exact HC2.out _ hbk11)
   clear hK K hHr1_2
   try simp only [tkp0,tkp1,tkp2,tkp3,tkp4,tkp5,tkp6,tkp7]
   refine rd1 8 (fun K hK=>?_)
   rw [if_pos (by first | rfl | kernel_rfl)]
   (refine app8k (.tmp 22) (.tmp 25) rfl H10.out (by rfl) HS10.out (by rfl) (by omega) HG9.out.1 hs10 ?_;intro A11 c11 w11 H11 HG11;have hbk11:=(HG11.out.2 wr.heap.size (Nat.le_refl _) (Nat.lt_succ_self _)).trans hbk10)
   refine hK.out _ _ ?_ (fun hHr1_4=>?_)
   ·(try dsimp only);(first | assumption | exact HC2.out _ HBK.out | exact HC2.out _ hbk | exact HC2.out _ hbk9 | exact HC2.out _ hbk10 | exact HC2.out _ hbk11)
   clear hK K hHr1_3
   try simp only [tkp0,tkp1,tkp2,tkp3,tkp4,tkp5,tkp6,tkp7]
   refine tk 9 ?_
   refine wpAnyH_done (by kernel_rfl) ?_ _
   refine NoPanic.normal ?_
   go_wp2
   go_roundw
   case rel=>exact ⟨k+1,_,_,_,by omega,by omega,rfl,by go_num,by rw [HTK.out];have:=H11.out;simp only [encPair,List.append_assoc] at this ⊢;exact this⟩
   case measure=>simp [intOf];omega
  ·obtain rfl:k=ns.length:=by omega
   have HF:Hid (Row8 WE WE.heap.size nn (.slice A' nn c') (numB ns.length ++ encPairs ns) wr):=by have:=HR.out;rw [List.take_length] at this;exact Lib.hid this
   clear HR
   go_wp2
   go_ret
   refine GivesB.up HBE.out ?_
   exact HF.out.givesB
end
section
open Go.RowKit Go.Shelf Go.Lib
attribute [local go_sem] Oper.semAt_some
section
variable {F:Fence} {nF:Nat} {P:Program}
theorem wpListIn_append_at (w:World) {ops:Array Oper} {rest:List Oper} {o:Oper} {a:Act} {Q:Exit→Act→World→Prop} (hgd:o.guard=none) (s x:Operand) (t:TypeId)
  (ho:o.op = .call { callee:=.builtin .append,args:=#[s,x],argTypes:=#[t,t] })
  (base:Nat) (e:TypeId) (i:TypeInfo) (z:Value) (size bytes:Nat) (ht:P.underlying t=some (.slice e)) (hi:P.info? e=some i) (hz:i.zero=some z)
  (hsize:i.size=size) (hby:i.bytes=bytes) (hzs:z.cells.size=size) (hsz : 0<size)
  (v:Value) (n:Nat) (xs:List Value) (hs:a.eval s=v) (hown:w.ownsRow base e size v n xs)
  (ad:Addr) (m c:Nat) (news:List Value) (hx:a.eval x = .slice (some ad) m c) (hl:news.length=m * size) (hnews : ∀ j u,news[j]? = some u→w.cell? (ad.add j)=some u) (h1 : ∀ u ∈ news,u.oneCell'=true)
  (h63:n+m≤maxLen) (hbytes:(n+m) * bytes≤140737488355328) (hbase:base≤w.heap.size)
  (h : ∀ v' w',w'.ownsRow base e size v' (n+m) (xs ++ news)→w.grownBy w' v.ownBlock→(v'.ownBlock=v.ownBlock ∨ v'.ownBlock=some w.heap.size)→wpListIn F nF P ops Q rest (a.put o.dst v') w') :
  wpListIn F nF P ops Q (o :: rest) a w:=by
 refine wpListIn_plain hgd fun K hK=>?_
 exact opIn_append_at w s x t ho base e i z size bytes ht hi hz hsize hby hzs hsz v n xs hs hown ad m c news hx hl hnews h1 h63 hbytes hbase (fun v' w' a b c=>hK _ _ (h v' w' a b c))
end
theorem keeps_bel {B:Nat} {V V':World} (h:Bel V V'):KeepsFrom B V V':=⟨h.size,fun j o _ hj ho=>(h.block j (Array.getElem?_eq_some_iff.1 hj).1).trans hj⟩
theorem wp_seqf_box {P:Program} {α : Type} {g:Operand} {ps:Array Tmp} {assign body:Code} {Q:Exit→Act→World→Prop} {a:Act} {w:World} (n:Nat)
  (h1 : 1≤n) {gf:Nat} {bd lb:Array Value} (hg:a.eval g = .func (.func gf) bd lb) (eg : ∀ args w,(callFunc gf args).run P w = .ok (.enter gf args) w)
  {E : α × Array Value→World→Prop} {S:Nat→Prop} {xs:List α} {w0:World} (hseq:SeqF Fence.wide (n - 1) P gf bd lb E S xs w0) (hS : ∀ k,S k→k<w.heap.size) (hb0:BelS S w0 w) (hps : ∀ x vs W,E (x,vs) W→vs.size=ps.size)
  (I:List α → World→Prop) (Ix:Code→List α → World→Prop) (hI:OwnFrom w.heap.size I) (hIx : ∀ c,OwnFrom w.heap.size (Ix c)) (hE:OwnFrom w.heap.size E) (h0:I [] w) (T:TypeId) (cb : α → Array Value) (a₁ : α → Array Value→Nat→Act)
  (hassign : ∀ (l:Nat) (x : α) (vs:Array Value) (W:World) (K:Act→World→Prop),E (x,vs) W→K (a₁ x vs W.heap.size) (W.alloc (.cells (cb x) T)) →
    assign.wpIn (Fence.wide.inRound l) (n - 1 - 1) P (Exit.then K (fun _ _ _=>False)) { tmps:=(ps.zip vs).foldl (fun t (p,v)=>t.setIfInBounds p v) a.tmps,defers:=[] } W)
  (hbody : ∀ (l:Nat) (pre:List α) (x : α) (vs:Array Value) (rest:List α) (W:World) (gx:Nat),xs=pre ++ x :: rest→w.heap.size≤l→(∃ r,W.heap[l]? = some (.loop r))→I pre W→E (x,vs) W→w.heap.size≤gx→Blk W gx T (cb x) →
    body.wpIn (Fence.wide.inRound l) (n - 1 - 1) P (ownPostG w.heap.size (OwnS S (w.heap.size+2)) I Ix (pre ++ [x]) W) (a₁ x vs gx) W)
  (hdone : ∀ (D:Nat) (W:World),w.heap.size≤D→I xs W→W.heap[D]? = some (.deferred (some []))→Q .normal { a with defers:={ target:=.collected D,args:=#[] } :: a.defers } W)
  (hstop : ∀ (D:Nat) (c:Code) (pre:List α) (x : α) (rest:List α) (W:World),w.heap.size≤D→xs=pre ++ x :: rest→Ix c (pre ++ [x]) W→W.heap[D]? = some (.deferred (some [])) →
    c.wp P Q { a with defers:={ target:=.collected D,args:=#[] } :: a.defers } W) :
  (Code.rangeFunc g ps assign body).wp P Q a w :=
 wpIn_wide.1 (wpIn_seqf (n:=n) rfl h1 hg trivial eg hseq hS hb0 hps I Ix hI hIx hE h0 (fun x vs a' W=>∃ gx,w.heap.size≤gx∧a'=a₁ x vs gx∧Blk W gx T (cb x))
  (fun x vs a' _ W W' row h hg hr=>by
    obtain ⟨gx,h1,h2,h3⟩:=h
    refine ⟨gx,h1,h2,h3.grown hg (fun e=>?_)⟩
    obtain ⟨-,o,ho,hc⟩:=hr gx e.symm
    unfold Blk at h3
    rw [h3] at ho
    cases ho
    cases hc)
  (fun l pre x vs W K hi he hs hK=>hassign l x vs W K he (hK _ _ (keeps_bel ((Bel.refl W).alloc _)) (OwnS.of_bel ((Bel.refl W).alloc _)) (hI.alloc _ hi) (hE.alloc _ he) ⟨W.heap.size,hs,rfl,Blk.new _ _ _⟩))
  (fun l pre x vs rest a' W hxs hl hr hi he ha=>by obtain ⟨gx,h1,rfl,h3⟩:=ha;exact hbody l pre x vs rest W gx hxs hl hr hi he h1 h3)
  hdone (fun D c pre x rest W hD hxs hi hK=>wpIn_wide.2 (hstop D c pre x rest W hD hxs hi hK)))
def kdS (b:Nat) (j:Nat):Prop:=j ≠ b+1∧j ≠ b+2∧j<b+4
structure DecI (W0:World) (b:Nat) (s:List UInt8) (pre:List (Nat×Val)) (V:World):Prop where
 out : ∃ A c,Blk V (b+1) 28 #[.slice A pre.length c]∧V.ownsRow (b+4) 64 4 (.slice A pre.length c) pre.length (vrows (pre.map Prod.snd))
 at_ : ∃ a:Nat,Blk V (b+2) 3 #[.int .i64 a]∧kPath s pre 0 a
 keep:BelS (kdS b) W0 V
theorem DecI.own (W0:World) (b:Nat) (s:List UInt8) (B:Nat) (hB:b+4≤B):OwnFrom B (fun (pre:List (Nat×Val)) V=>DecI W0 b s pre V):=fun pre V V' row h hg hr=>by
 have hr2:=fun r e=>(hr r e).2
 obtain ⟨A,c,h1,h2⟩:=h.out
 obtain ⟨a,h3,h4⟩:=h.at_
 have hkb : ∀ (g:Nat) (T:TypeId) (cs:Array Value),Blk V g T cs→Blk V' g T cs:=fun g T cs hB=>hB.grown hg (fun e=>by
  obtain ⟨o,ho,hc⟩:=hr2 g e.symm
  unfold Blk at hB
  rw [hB] at ho
  cases ho
  cases hc)
 refine ⟨⟨A,c,hkb _ _ _ h1,?_⟩,⟨a,hkb _ _ _ h3,h4⟩,h.keep.grown hg (fun k e hk=>by have:=(hr k e).1;have:=hk.2.2;omega)⟩
 refine ⟨h2.1,?_⟩
 rcases h2.2 with h3 | ⟨g,cap,cur,hv,hgb,hh,r⟩
 ·exact .inl h3
 ·exact .inr ⟨g,cap,cur,hv,hgb,hkb _ _ _ hh,r⟩
theorem DecI.step {W0 V V2 V':World} {b:Nat} {s:List UInt8} {pre:List (Nat×Val)} (hk:BelS (kdS b) W0 V) (h6:W0.heap.size=b+4) (hb:Bel V V2) {A A':Option Addr} {c c':Nat} (hoB:Blk V2 (b+1) 28 #[.slice A pre.length c])
  (hown:V2.ownsRow (b+4) 64 4 (.slice A pre.length c) pre.length (vrows (pre.map Prod.snd))) (hg:V2.grownBy V' (Value.slice A pre.length c).ownBlock) {i:Nat} {x:Val} (hown':V'.ownsRow (b+4) 64 4 (.slice A' (pre.length+1) c') (pre.length+1) (vrows (pre.map Prod.snd) ++ vrow x))
  {a m:Nat} (hat:Blk V2 (b+2) 3 #[.int .i64 a]) (hp:kPath s (pre ++ [(i,x)]) 0 m) :
  DecI W0 b s (pre ++ [(i,x)]) ((V'.setCell ⟨b+1,0,none⟩ (.slice A' (pre.length+1) c')).setCell ⟨b+2,0,none⟩ (.int .i64 m))∧OwnS (kdS b) (W0.heap.size+2) V ((V'.setCell ⟨b+1,0,none⟩ (.slice A' (pre.length+1) c')).setCell ⟨b+2,0,none⟩ (.int .i64 m))∧KeepsFrom W0.heap.size V ((V'.setCell ⟨b+1,0,none⟩ (.slice A' (pre.length+1) c')).setCell ⟨b+2,0,none⟩ (.int .i64 m)):=by
 have hL:(pre ++ [(i,x)]).length=pre.length+1:=by simp
 have hM:vrows ((pre ++ [(i,x)]).map Prod.snd)=vrows (pre.map Prod.snd) ++ vrow x:=by rw [List.map_append,vrows_append];simp [vrows]
 have hrow : ∀ j,(Value.slice A pre.length c).ownBlock=some j→b+4≤j:=fun j e=>(hown.lt j e).1
 have hS1 : ¬ kdS b (⟨b+1,0,none⟩:Addr).block:=by unfold kdS;dsimp only;omega
 have hS2 : ¬ kdS b (⟨b+2,0,none⟩:Addr).block:=by unfold kdS;dsimp only;omega
 have kB:Blk V' (b+1) 28 #[.slice A pre.length c]:=hoB.grown hg (fun e=>by have:=hrow _ e.symm;omega)
 have kL:Blk V' (b+2) 3 #[.int .i64 a]:=hat.grown hg (fun e=>by have:=hrow _ e.symm;omega)
 have hot:KeepsFrom W0.heap.size V2 V':=(KeepsOthers.of_grownBy hg (fun j o e ho=>by
  rcases hown.2 with ⟨e2,-⟩ | ⟨g,cap,cur,e2,-,hh,-⟩
  ·rw [e2] at e;simp [Value.ownBlock] at e
  ·rw [e2] at e
   have:g=j:=by simpa [Value.ownBlock] using e
   subst this
   rw [hh] at ho
   cases ho
   rfl)).from _
 have hbs:BelS (kdS b) V V':=(BelS.of_bel hb).grown hg (fun j e hk=>by have:=hrow j e;have:=hk.2.2;omega)
 have kB':=kB.set_ 0 (.slice A' (pre.length+1) c')
 have kL':=kL.far (p:=⟨b+1,0,none⟩) (by show b+2 ≠ b+1;omega) (.slice A' (pre.length+1) c')
 refine ⟨⟨⟨A',c',?_,?_⟩,⟨m,kL'.set_ 0 _,hp⟩,((hk.trans hbs).setCell hS1 _).setCell hS2 _⟩,⟨(hbs.setCell hS1 _).setCell hS2 _⟩,(((keeps_bel hb).trans hot).trans ((KeepsOthers.setCell _ _ _).from _)).trans ((KeepsOthers.setCell _ _ _).from _)⟩
 ·rw [hL]
  exact kB'.far (by show b+1 ≠ b+2;omega) _
 ·rw [hL,hM]
  exact row_setArr (row_setArr hown' kB (by decide)) kL' (by decide)
theorem kyEach_at (s:ByteArray) (B:Nat) (w:World) (hB:w.heap.size=B):Calls Tryz.prog 127 #[.string s] w fun e w'=>e = .returned (.func (.func 170) #[] #[.pointer (some ⟨B,0,none⟩)])∧w.alloc (.cells #[.string s] 9)=w':=by
 subst hB
 exact kyEach_any s w
set_option maxRecDepth 100000 in
set_option maxHeartbeats 4000000 in
theorem kyDecode_any (s:List UInt8) (hs:s.length≤1000000) (w:World):Calls Tryz.prog 98 #[strV s] w fun e w'=>∃ v,e = .returned (.tuple #[v,.int .i64 (krDec s).2])∧ValsIn w.heap.size w' v (krDec s).1∧Bel w w':=by
 have hsI:(s.length:Int)≤1000000:=by omega
 obtain ⟨R,hR⟩ : ∃ R,krDec s=R:=⟨_,rfl⟩
 rw [hR]
 have HRR:=Lib.hid hR
 clear hR
 unfold strV
 have HONE:=Lib.hid (fun (t:List UInt8) (ht:t.length≤1000000) V=>kyOne_any t ht V)
 have hdb:=fun a=>drop_bytes s a
 obtain ⟨j0,hj0,hy0,hy1,hy2⟩:=info_parts infoV
 refine calls_of_wp_marks 12 Tryz.func98 rfl ?_
 simp only [Tryz.ntmps98,List.size_toArray,List.length_cons,List.length_nil,Nat.reduceAdd,Nat.reduceSub,Array.replicate_succ,Array.replicate_zero,List.push_toArray,List.append_toArray,List.nil_append,List.cons_append]
 go_wp2_with fail
 refine (kyEach_at _ (w.heap.size+3) _ (by simp)).mono ?_
 rintro e0 W1 ⟨rfl,hW1⟩
 have hsz:W1.heap.size=w.heap.size+4:=by rw [← hW1];simp
 have hBW:Bel w W1:=by rw [← hW1];exact ((((Bel.refl w).alloc _).alloc _).alloc _).alloc _
 have k0:W1.cell? ⟨w.heap.size,0,none⟩=some (strV s):=by
  rw [← hW1]
  exact ((((Blk.new w 9 #[.string ⟨s.toArray⟩]).alloc _).alloc _).alloc _).cell 0
 have k3:W1.cell? ⟨w.heap.size+3,0,none⟩=some (strV s):=by
  rw [← hW1]
  have:=(Blk.new (((w.alloc (.cells #[.string ⟨s.toArray⟩] 9)).alloc (.cells #[.slice none 0 0] 28)).alloc (.cells #[.int .i64 0] 3)) 9 #[.string ⟨s.toArray⟩]).cell 0
  rw [World.size_alloc,World.size_alloc,World.size_alloc] at this
  exact this
 have k1:Blk W1 (w.heap.size+1) 28 #[.slice none 0 0]:=by
  rw [← hW1]
  have:=(((Blk.new (w.alloc (.cells #[.string ⟨s.toArray⟩] 9)) 28 #[.slice none 0 0]).alloc (.cells #[.int .i64 0] 3)).alloc (.cells #[.string ⟨s.toArray⟩] 9))
  simpa using this
 have k2:Blk W1 (w.heap.size+2) 3 #[.int .i64 0]:=by
  rw [← hW1]
  have:=((Blk.new ((w.alloc (.cells #[.string ⟨s.toArray⟩] 9)).alloc (.cells #[.slice none 0 0] 28)) 3 #[.int .i64 0]).alloc (.cells #[.string ⟨s.toArray⟩] 9))
  simpa using this
 have hseq:=kyEachC_seq 11 (by omega) (w:=W1) (B:=w.heap.size+3) (kdS w.heap.size) s hs k3 (by unfold kdS;omega)
 have HI:Hid (DecI W1 w.heap.size s [] W1):=Lib.hid ⟨⟨none,0,k1,World.ownsRow_nil _ _ _ _⟩,⟨0,k2,rfl⟩,BelS.refl _ _⟩
 have HK0:=Lib.hid k0
 have HP:=Lib.hid (kItems_path s)
 clear hW1 k0 k1 k2 k3
 go_wp2
 refine wp_seqf_box 12 (by omega) (gf:=170) (bd:=#[]) (lb:=#[.pointer (some ⟨w.heap.size+3,0,none⟩)]) rfl (enters_of Tryz.func170 (by kernel_rfl) rfl) hseq (by intro k hk;have:=hk.2.2;omega) (BelS.refl _ _) (fun x vs V hE=>by simp only at hE;rw [hE];rfl)
  (fun pre V=>DecI W1 w.heap.size s pre V) (fun c pre V=>False) ?hI ?hIx ?hE HI.out 64 (fun x=>vcells x.2) (fun x vs gx=>{ tmps:=#[.string ⟨s.toArray⟩,.pointer (some ⟨w.heap.size,0,none⟩),.slice none 0 0,.int .i64 0,.pointer (some ⟨w.heap.size+1,0,none⟩),.pointer (some ⟨w.heap.size+1+1,0,none⟩),.int .i64 x.1,.pointer (some ⟨gx,0,none⟩),undef,undef,undef,.string ⟨s.toArray⟩,.func (.func 170) #[] #[.pointer (some ⟨w.heap.size+1+1+1,0,none⟩)],.int .i64 x.1,x.2.v,undef,undef,undef,undef,undef,undef,undef,undef,undef,undef,undef,undef,undef,undef,undef,undef,undef,undef,undef,undef,undef,undef,undef,undef,undef],defers:=[] }) ?hassign ?hbody ?hdone ?hstop
 case hI=>exact DecI.own W1 w.heap.size s _ (by omega)
 case hIx=>exact fun c pre A B row hs hg hr=>hs
 case hE=>exact fun _ _ _ _ hs _ _=>hs
 case hstop=>exact fun D c pre x rest V hD hxs hf=>hf.elim
 case hassign =>
  intro l x vs W K hE hK
  simp only at hE
  subst hE
  obtain ⟨i,⟨xk,xn,xu,xb⟩⟩:=x
  unfold Val.v
  unfold Val.v at hK
  gi_wp2
  exact hK
 case hbody =>
  intro l pre x vs rest Wb gx hxs hl hlo hi hE hgx hbx
  simp only at hE
  subst hE
  obtain ⟨i,x⟩:=x
  obtain ⟨b,hpb,hnb⟩:=HP.out
  rw [hxs] at hpb
  obtain ⟨cI,hp1,hp2,m,hrd,-⟩:=(kPath_app pre ((i,x) :: rest) 0 b).1 hpb
  have hp2:i=cI:=hp2
  subst hp2
  have hle:=kPath_le pre 0 i hp1 (Nat.zero_le _)
  have hml:=rdKeyV_le hrd
  rw [List.length_drop] at hml
  have hNX:kPath s (pre ++ [(i,x)]) 0 (i+m):=(kPath_app pre [(i,x)] 0 _).2 ⟨i,hp1,rfl,m,hrd,rfl⟩
  have HO:=HONE.out (s.drop i) (by rw [List.length_drop];omega) Wb
  rw [hrd] at HO
  unfold kOne strV at HO
  have g0:Wb.cell? ⟨w.heap.size,0,none⟩=some (.string ⟨s.toArray⟩):=hi.keep.cell (p:=⟨w.heap.size,0,none⟩) (by unfold kdS;dsimp only;omega) HK0.out
  have hiI:(i:Int)≤s.length:=by omega
  have hmI:(i:Int)+m≤s.length:=by omega
  obtain ⟨A,c,hoB,hown⟩:=hi.out
  obtain ⟨a0,haB,-⟩:=hi.at_
  have hkeep:=hi.keep
  clear hxs hpb hnb hp1 hrd hi
  obtain ⟨xk,xn,xu,xb⟩:=x
  unfold Val.v at HO
  dsimp only at *
  have HO2:=Lib.hid HO
  clear HO
  have hVX:vrow ⟨xk,xn,xu,xb⟩=[.int .i64 xk,.int .i64 xn,.int .u64 xu,.string xb]:=rfl
  unfold vcells at hbx
  dsimp only at hbx
  have HBX:=Lib.hid hbx
  have HNX:=Lib.hid hNX
  have HOB:=Lib.hid hoB
  have HOWN:=Lib.hid hown
  have HAB:=Lib.hid haB
  have HKEEP:=Lib.hid hkeep
  have h6:W1.heap.size=w.heap.size+4:=hsz
  have h7:=hkeep.size
  clear hseq hbx hNX hoB hown haB hkeep hp2
  gi_wp2_with fail
  refine ⟨trivial,((callsIn_wide.2 HO2.out).inRound l).mono ?_⟩
  rintro e4 w4 ⟨rfl,hb4⟩
  have hgx4:gx<Wb.heap.size:=HBX.out.lt
  have B4:=Lib.hid hb4
  have x0:w4.cell? ⟨gx,0,none⟩=some (.int .i64 xk):=hb4.c (HBX.out.cell 0)
  have x1:w4.cell? ⟨gx,1,none⟩=some (.int .i64 xn):=hb4.c (HBX.out.cell 1)
  have x2:w4.cell? ⟨gx,2,none⟩=some (.int .u64 xu):=hb4.c (HBX.out.cell 2)
  have x3:w4.cell? ⟨gx,3,none⟩=some (.string xb):=hb4.c (HBX.out.cell 3)
  have o0:w4.cell? ⟨w.heap.size+1,0,none⟩=some (.slice A pre.length c):=hb4.c (HOB.out.cell 0)
  have hgl4:gx<w4.heap.size:=Nat.lt_of_lt_of_le hgx4 hb4.size
  have hs4:=hb4.size
  have hl1:w.heap.size+1<w4.heap.size:=by omega
  have hl2:w.heap.size+1+1<w4.heap.size:=by omega
  clear hb4
  have hV2:Hid (Bel Wb ((w4.alloc (.cells #[.int .i64 xk,.int .i64 xn,.int .u64 xu,.string xb] 64)).alloc (.cells #[.int .i64 xk,.int .i64 xn,.int .u64 xu,.string xb] 64))):=(B4.out.alloc _).alloc _
  have HOW2:=Lib.hid (ownsRow_bel HOWN.out hV2.out)
  have HOB2:=Lib.hid (HOB.out.below hV2.out (by omega))
  have HAB2:=Lib.hid (HAB.out.below hV2.out (by omega))
  have hrl:Hid (([Value.int .i64 xk,.int .i64 xn,.int .u64 xu,.string xb]).length=1 * 4):=Lib.hid rfl
  have HRC:Hid (∀ (j:Nat) (u:Value),[Value.int .i64 xk,.int .i64 xn,.int .u64 xu,.string xb][j]? = some u→((w4.alloc (.cells #[.int .i64 xk,.int .i64 xn,.int .u64 xu,.string xb] 64)).alloc (.cells #[.int .i64 xk,.int .i64 xn,.int .u64 xu,.string xb] 64)).cell? ((⟨w4.heap.size+1,0,none⟩:Addr).add j)=some u):=fun j u hu=>by
   have e:(Addr.add ⟨w4.heap.size+1,0,none⟩ j)=⟨w4.heap.size+1,j,none⟩:=by unfold Addr.add;split <;> simp_all
   rw [e]
   have:=(Blk.new (w4.alloc (.cells #[.int .i64 xk,.int .i64 xn,.int .u64 xu,.string xb] 64)) 64 #[.int .i64 xk,.int .i64 xn,.int .u64 xu,.string xb]).cell j
   rw [World.size_alloc] at this
   rw [this,List.getElem?_toArray]
   exact hu
  have hon : ∀ u ∈ [Value.int .i64 xk,.int .i64 xn,.int .u64 xu,.string xb],u.oneCell'=true:=fun u hu=>by
   simp at hu
   rcases hu with rfl | rfl | rfl | rfl <;> rfl
  have hpl:pre.length≤1000000:=by omega
  have HST:=Lib.hid (fun (V':World) (A':Option Addr) (c':Nat) (hg:((w4.alloc (.cells #[.int .i64 xk,.int .i64 xn,.int .u64 xu,.string xb] 64)).alloc (.cells #[.int .i64 xk,.int .i64 xn,.int .u64 xu,.string xb] 64)).grownBy V' (Value.slice A pre.length c).ownBlock) (ho:V'.ownsRow (w.heap.size+4) 64 4 (.slice A' (pre.length+1) c') (pre.length+1) (vrows (pre.map Prod.snd) ++ vrow ⟨xk,xn,xu,xb⟩))=>DecI.step HKEEP.out h6 hV2.out HOB2.out HOW2.out hg ho HAB2.out HNX.out)
  have HBB:Hid (∀ V',((w4.alloc (.cells #[.int .i64 xk,.int .i64 xn,.int .u64 xu,.string xb] 64)).alloc (.cells #[.int .i64 xk,.int .i64 xn,.int .u64 xu,.string xb] 64)).grownBy V' (Value.slice A pre.length c).ownBlock→Blk V' (w.heap.size+1) 28 #[.slice A pre.length c]∧Blk V' (w.heap.size+2) 3 #[.int .i64 a0]) :=
   Lib.hid (fun V' hg=>⟨HOB2.out.grown hg (fun e=>by have:=(HOW2.out.lt _ e.symm).1;omega),HAB2.out.grown hg (fun e=>by have:=(HOW2.out.lt _ e.symm).1;omega)⟩)
  gi_wp2_with (gi_at_builtin;refine wpListIn_append_at _ rfl (.tmp 23) (.tmp 25) 28 rfl (w.heap.size+4) 64 j0 _ 4 40 Tryz.underlying28 hj0 hy0 hy1 hy2 rfl (by omega) (.slice A pre.length c) _ _ (by rfl) HOW2.out ⟨w4.heap.size+1,0,none⟩ 1 1 _ (by rfl) hrl.out HRC.out hon (by unfold maxLen;omega) (by omega) (by simp;omega) ?_;intro v9 w9 hown9 hg9 hat9;obtain ⟨A9,c9,rfl⟩:=row_any hown9;have HS9:=Lib.hid (HST.out w9 A9 c9 hg9 hown9);obtain ⟨q1,q2⟩:=HBB.out w9 hg9;have q3:=q1.cell 0;have q4:=q1.frozen 0;have q5:=q2.cell 0;have q6:=q2.frozen 0;clear hown9 hg9 hat9 q1 q2;simp only [List.getElem?_toArray,List.getElem?_cons_zero] at q3 q5)
  have h:=HS9.out
  rw [Int.natCast_add] at h
  exact ⟨h.2.2,h.2.1,h.1⟩
 case hdone =>
  intro D V hD hi hdf
  obtain ⟨A,c,hoB,hown⟩:=hi.out
  obtain ⟨a,haB,hpa⟩:=hi.at_
  obtain ⟨b,hpb,hnb⟩:=HP.out
  obtain rfl:a=b:=kPath_fun _ _ _ _ hpa hpb
  have hBV:Bel w V:=⟨hi.keep.os.trans hBW.os,hi.keep.tape.trans hBW.tape,hi.keep.output.trans hBW.output,Nat.le_trans hBW.size hi.keep.size,fun k hk=>(hi.keep.block k (by unfold kdS;omega) (by omega)).trans (hBW.block k hk)⟩
  have hal:=(kPath_le _ _ _ hpa (Nat.zero_le _)).2
  have hR:=HRR.out
  unfold krDec at hR
  rw [rdKeys_items hpa hnb] at hR
  have o1:=hoB.cell 0
  have o2:=haB.cell 0
  simp only [List.getElem?_toArray,List.getElem?_cons_zero] at o1 o2
  have g0:V.cell? ⟨w.heap.size,0,none⟩=some (.string ⟨s.toArray⟩):=hi.keep.cell (p:=⟨w.heap.size,0,none⟩) (by unfold kdS;dsimp only;omega) HK0.out
  have hgp:=grownBy_putObj' V D (.deferred none)
  have hVI:Hid (ValsIn w.heap.size (V.putObj D (.deferred none)) (.slice A (kItems s).length c) ((kItems s).map Prod.snd)):=by
   refine Lib.hid ⟨w.heap.size+4,by omega,?_⟩
   rw [List.length_map]
   refine ⟨hown.1,?_⟩
   rcases hown.2 with h3 | ⟨g,cap,cur,hv,hgb,hh,r⟩
   ·exact .inl h3
   ·exact .inr ⟨g,cap,cur,hv,hgb,(hgp.block g (Array.getElem?_eq_some_iff.1 hh).1 (fun e=>by cases e;rw [hdf] at hh;cases hh)).trans hh,r⟩
  have HBV:Hid (Bel w (V.putObj D (.deferred none))):=Lib.hid (Below.grown hBV hgp hBV.size (fun j e=>by cases e;omega))
  clear hgp
  clear hseq hi hpb hpa hnb hoB haB hown hBV
  by_cases hc:a=s.length∧s.length≤2000
  ·rw [if_pos hc] at hR
   dsimp only at hR
   subst hR
   obtain ⟨ha,h2⟩:=hc
   subst ha
   have hne:((s.length:Int) != s.length)=false:=by simp
   have h2I:(s.length:Int)≤2000:=by omega
   have h2J : ¬ (2000:Int)<s.length:=by omega
   go_wp2
   exact leavesM_collected (D:=D) hdf (leavesM_nil (v:=.tuple #[.slice A (kItems s).length c,.int .i64 0]) (by simp [results,Tryz.results98,go_sem]) ⟨_,rfl,hVI.out,HBV.out⟩)
  ·rw [if_neg hc] at hR
   dsimp only at hR
   subst hR
   by_cases ha:a=s.length
   ·subst ha
    have h2 : ¬ s.length≤2000:=fun h=>hc ⟨rfl,h⟩
    have hne:((s.length:Int) != s.length)=false:=by simp
    have h2J:(2000:Int)<s.length:=by omega
    clear hc
    go_wp2
    exact leavesM_collected (D:=D) hdf (leavesM_nil (v:=.tuple #[.slice none 0 0,.int .i64 150]) (by simp [results,Tryz.results98,go_sem]) ⟨_,rfl,⟨w.heap.size,Nat.le_refl _,World.ownsRow_nil _ _ _ _⟩,HBV.out⟩)
   ·have hne:((a:Int) != s.length)=true:=by rw [bne_iff_ne];omega
    have hne2 : ¬ ((a:Int)=s.length):=by omega
    clear hc
    go_wp2
    exact leavesM_collected (D:=D) hdf (leavesM_nil (v:=.tuple #[.slice none 0 0,.int .i64 150]) (by simp [results,Tryz.results98,go_sem]) ⟨_,rfl,⟨w.heap.size,Nat.le_refl _,World.ownsRow_nil _ _ _ _⟩,HBV.out⟩)
end
end Go.Proofs.YtnajjhgbombboaaGreatDoor
