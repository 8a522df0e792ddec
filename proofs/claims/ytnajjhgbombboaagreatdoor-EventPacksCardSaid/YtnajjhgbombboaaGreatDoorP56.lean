/-
  Texts behind the statement: part 56.
-/
import Derived.Test.YtnajjhgbombboaaGreatDoorP30
import Derived.Test.YtnajjhgbombboaaGreatDoorP42
import Derived.Test.YtnajjhgbombboaaGreatDoorP55
set_option linter.unusedVariables false
set_option linter.unusedSimpArgs false
namespace Go.Proofs.YtnajjhgbombboaaGreatDoor
section
open Go.RowKit Go.Shelf Go.Lib
attribute [local go_sem] Oper.semAt_some
theorem eql_nilEv (f:Fn) (a b:Array Value) (w:World):(binOp .eql 59 (.func f a b) .nilFunc).run Tryz.prog w = .ok (.bool false) w:=by kernel_rfl
theorem Bel.of_alloc8 {w W:World} {o:Obj} {b:Nat} (h:(w.alloc o).grownBy W (some b)) (hb:w.heap.size≤b):Bel w W :=
 (((Below.refl _ w).alloc (Nat.le_refl _) o)).grown h (by simp) (fun j e=>by cases e;exact hb)
def BX8 (x:Nat×Ev) (vs:Array Value) (b:Nat) (W:World):Prop:=∃ cs:Array Value,vs[1]? = some (.agg cs) ∧ ∀ (j:Nat) (u:Value),cs[j]? = some u→W.cell? ⟨b,j,none⟩=some u
theorem bx8_own (n:Nat) (x:Nat×Ev) (vs:Array Value) (b:Nat):OwnFrom n (fun (_:Unit) W=>BX8 x vs b W):=fun s A B row hs hg hr=>by
 obtain ⟨cs,h1,h2⟩:=hs
 exact ⟨cs,h1,fun j u hu=>cell_kept (h2 j u hu) hg (fun r e=>(hr r e).2)⟩
theorem quiet_region_bel {F:Fence} {n:Nat} {P:Program} {W:World} {id:Nat} {Q:Exit→Act→World→Prop} {a:Act} {w:World} {l:List Oper} (hW:Bel W w) (hd:(l.all fun o=>match o.op with | Op.defer _=>false | _=>true)=true) (hm:P.follows .mixedOrders=true) (hB:Region.lexB .any l.toArray=true)
  (h:wpQuietIn F n P l.toArray (fun w'=>∃ S:After W,w'=S.w) (fun a'=>∀ w',(∃ S:After W,w'=S.w)→Q .normal a' w') l a):(Code.region id l.toArray true).wpIn F n P Q a w:=by
 have hB':=hB
 simp only [Region.lexB,Bool.and_eq_true] at hB'
 refine wpIn_region_any hm (quiet_any (C:=fun w'=>∃ S:After W,w'=S.w) (Q:=fun a'=>∀ w',(∃ S:After W,w'=S.w)→Q .normal a' w') (fun i o c hi hc=>?_) (fun _ w' hw' h=>h w' hw') _ _ _ _ ⟨⟨w.drew,hW.drew⟩,rfl⟩ ?_)
 ·have hmem:o ∈ l:=List.mem_of_getElem? (by simpa using hi)
  have:=List.all_eq_true.1 hd o hmem
  rw [hc] at this
  cases this
 ·have:=wpAnyQIn_lex (F:=F) (n:=n) (C:=fun w'=>∃ S:After W,w'=S.w) (md:=.any) hB'.1 l 0 (Array.replicate l.toArray.size false) a (by simp) (by simpa using hB'.2) h
  simpa using this
set_option maxRecDepth 100000 in
set_option maxHeartbeats 40000000 in
theorem l8Packs_any (vl:Value) (l:List Ev) (many:Int) (w:World) (hg:ErrType w) (hl:EventsAt w vl l) (hin : ∀ x ∈ l,x.In):Calls Tryz.prog 8 #[vl,.int .i64 many] w fun e w'=>e = .returned (.bool true)∧Bel w w':=by
 have HA:=Lib.hid (fun V (hV:Bel w V)=>l8all_any vl l 6 (by omega) V (hl.bel hV) hin)
 have HW:=Lib.hid (fun V (hV:Bel w V)=>l8works_any V (hg.bel hV))
 have HP:=Lib.hid (fun V (hV:Bel w V)=>epack_any vl l V (hg.bel hV) (hl.bel hV) (fun x hx=>(hin x hx).wf))
 have HRP:=Lib.hid (fun (hf : ∀ x ∈ l,FewP x) V (hV:Bel w V)=>r8Pack_any vl l V (hl.bel hV) (fun x hx=>(hin x hx).wf) (fun _ x hx=>(hf x hx).sz (hin x hx)))
 have HGG:=Lib.hid (fun V (hV:Bel w V)=>hg.bel hV)
 have HEV0:=Lib.hid hl
 have hwf : ∀ x ∈ l,x.Wf:=fun x hx=>(hin x hx).wf
 have HUP:Hid ((packR l).1.length≤1000000∧((packR l).2=0→(pickL (unpackE (packR l).1)).1=l)∧((packR l).2 ≠ 0→(packR l).1=[]∧(pickL (unpackE (packR l).1)).1=[])):=Lib.hid (by
  unfold packR
  by_cases h : 100<l.length
  ·rw [if_pos h]
   exact ⟨by simp,fun h=>absurd h (by decide),fun _=>⟨rfl,by decide +kernel⟩⟩
  ·rw [if_neg h]
   by_cases h2:l.all rightE=true
   ·rw [if_pos h2]
    have hx : ∀ x ∈ l,rightE x=true∧x.Wf:=fun x hx=>⟨List.all_eq_true.1 h2 x hx,hwf x hx⟩
    refine ⟨by have:=encEs_len hx (by omega);dsimp only;omega,fun _=>?_,fun h=>absurd rfl h⟩
    dsimp only
    rw [unpack_enc hx (by omega)]
    rfl
   ·rw [if_neg h2]
    exact ⟨by simp,fun h=>absurd h (by decide),fun _=>⟨rfl,by decide +kernel⟩⟩)
 obtain ⟨Al,cl,rfl,-⟩:=id hl
 have hnf:=eql_nilEv
 obtain ⟨W0,hW0⟩ : ∃ W0,W0=((w.alloc (.cells #[.slice Al l.length cl] 48)).alloc (.cells #[.int .i64 many] 3)).alloc (.cells #[.bool false] 4):=⟨_,rfl⟩
 have HB0:Hid (Bel w W0):=by show Bel w W0;rw [hW0];exact (((Bel.refl w).alloc _).alloc _).alloc _
 have HCL:Hid (∀ V,Bel W0 V→(V.cell? ⟨w.heap.size,0,none⟩=some (.slice Al l.length cl)∧V.frozen? ⟨w.heap.size,0,none⟩=false)∧V.cell? ⟨w.heap.size+1,0,none⟩=some (.int .i64 many)∧V.cell? ⟨w.heap.size+1+1,0,none⟩=some (.bool false)∧V.frozen? ⟨w.heap.size+1+1,0,none⟩=false∧w.heap.size+3≤V.heap.size):=fun V h=>by
  have hs:=h.size
  have hf:=Below.frozen h (p:=⟨w.heap.size+1+1,0,none⟩) (by rw [hW0];simp)
  have hf0:=Below.frozen h (p:=⟨w.heap.size,0,none⟩) (by rw [hW0];simp;omega)
  rw [hW0] at h hs hf hf0
  exact ⟨⟨h.c (by go_simp),hf0.trans (by go_simp)⟩,h.c (by go_simp),h.c (by go_simp),hf.trans (by go_simp),by simpa using hs⟩
 generalize packR l=PK at HP HRP HUP
 obtain ⟨s,no⟩:=PK
 dsimp only at HP HRP HUP
 clear hg hl hin hwf
 refine calls_of_wp_marks 12 Tryz.func8 rfl ?_
 simp only [Tryz.ntmps8,List.size_toArray,List.length_cons,List.length_nil,Nat.reduceAdd,Nat.reduceSub,Array.replicate_succ,Array.replicate_zero,List.push_toArray,List.append_toArray,List.nil_append,List.cons_append]
 go_wp2_with fail
 rw [← hW0]
 clear hW0
 refine (HA.out _ HB0.out).mono ?_
 rintro e w4 ⟨fa,rfl,hfa,hb4⟩
 cases fa with
 | false =>
   clear HP HRP HUP hfa
   go_wp2_with fail
   refine (HW.out _ (HB0.out.then_ hb4)).mono ?_
   rintro e w9 ⟨rfl,hb9⟩
   obtain ⟨-,-,r1,r2,-⟩:=HCL.out _ (hb4.then_ hb9)
   go_wp2
   refine leavesM_nil ?_ ⟨rfl, ?_⟩
   ·have hc:(w9.setCell ⟨w.heap.size+1+1,0,none⟩ (.bool true)).cell? ⟨w.heap.size+1+1,0,none⟩=some (.bool true):=by go_simp
    simp [results,Tryz.results8,go_sem,hc]
   ·exact ((HB0.out.then_ hb4).then_ hb9).setCell (by simp;omega) _
 | true =>
   have HRP:=Lib.hid (HRP.out (hfa rfl).2)
   obtain ⟨⟨a0,a9⟩,-,-,-,-⟩:=HCL.out _ hb4
   have HB4:=Lib.hid hb4
   clear hb4 hfa HA
   go_wp2_with fail
   refine (HP.out _ (HB0.out.then_ HB4.out)).mono ?_
   rintro e w5 ⟨v5,rfl,hv5,hb5⟩
   have HB5:=Lib.hid (HB4.out.then_ hb5)
   have HV5:=Lib.hid hv5
   obtain ⟨A5,c5,rfl,-⟩:=hv5
   obtain ⟨⟨a0,a9⟩,-,-,-,-⟩:=HCL.out _ HB5.out
   clear hb5 HP HB4
   go_wp2_with fail
   refine (HRP.out _ (HB0.out.then_ HB5.out)).mono ?_
   rintro e w6 ⟨v6,rfl,hv6,hb6⟩
   have HC6:=Lib.hid (HB5.out.then_ hb6)
   have HV5:=Lib.hid (HV5.out.bel hb6)
   have HV6:=Lib.hid hv6
   obtain ⟨A6,c6,rfl,-⟩:=hv6
   have k5:=bs_conv HV5.out
   have k6:=bs_conv HV6.out
   obtain ⟨⟨a0,a9⟩,a1,r1,r2,hs6⟩:=HCL.out _ HC6.out
   have hsz6:w.heap.size<w6.heap.size:=by omega
   clear hb6 HRP HB5 HV6
   by_cases hn0:no=0
   ·subst hn0
    go_wp2_with (first | (go_at_call 13;refine (l8num_any _ _).mono ?_;rintro e w' ⟨rfl,rfl⟩) | (go_at_call 25;fail))
    obtain ⟨W6,hW6⟩ : ∃ V,V=w6:=⟨_,rfl⟩
    rw [← hW6]
    obtain ⟨L,hLl⟩ : ∃ L,L=l:=⟨_,rfl⟩
    have HB6:Hid (Bel w W6):=Lib.hid (by rw [hW6];exact HB0.out.then_ HC6.out)
    have HCX:Hid (∀ V,Bel W6 V→V.cell? ⟨w.heap.size,0,none⟩=some (.slice Al L.length cl)∧V.cell? ⟨w.heap.size+1,0,none⟩=some (.int .i64 many)∧V.cell? ⟨w.heap.size+1+1,0,none⟩=some (.bool false)∧V.frozen? ⟨w.heap.size+1+1,0,none⟩=false∧w.heap.size+3≤V.heap.size):=Lib.hid (fun V hV=>by
     rw [hW6] at hV
     obtain ⟨⟨b0,-⟩,b1,b2,b3,b4⟩:=HCL.out V (HC6.out.then_ hV)
     rw [hLl]
     exact ⟨b0,b1,b2,b3,b4⟩)
    have HBS:Hid (BsAt W6 (.slice A5 s.length c5) s∧s.length≤1000000):=Lib.hid (by rw [hW6];exact ⟨HV5.out,HUP.out.1⟩)
    have HEV:Hid (EventsAt W6 (.slice Al L.length cl) L):=Lib.hid (by rw [hW6,hLl];exact HEV0.out.bel (HB0.out.then_ HC6.out))
    have HLE:Hid ((pickL (unpackE s)).1=L):=Lib.hid (by rw [hLl];exact HUP.out.2.1 (by first | rfl | trivial))
    clear hW6 hLl HCL HC6 HV5 HEV0 HUP k5 k6 a0 a9 a1 r1 r2 hs6 hsz6 HB0
    have hLI:(L.length:Int)≤9223372036854775807:=by have:=HEV.out;obtain ⟨_,_,_,h1,h2,-⟩:=this;unfold maxLen at h2;omega
    refine (evEach_any _ _ _ _).mono ?_
    rintro e w' ⟨rfl,rfl⟩
    obtain ⟨W7,hW7⟩ : ∃ W7,W7=W6.alloc (.cells #[.slice A5 s.length c5] 34):=⟨_,rfl⟩
    have hb7:Bel W6 W7:=by rw [hW7];exact (Bel.refl W6).alloc _
    have e0:W7.cell? ⟨W6.heap.size,0,none⟩=some (.slice A5 s.length c5):=by rw [hW7];go_simp
    have hs7:W7.heap.size=W6.heap.size+1:=by rw [hW7];simp
    rw [← hW7]
    have HE7:Hid (W7.cell? ⟨W6.heap.size,0,none⟩=some (.slice A5 s.length c5)∧W7.heap.size=W6.heap.size+1):=⟨e0,hs7⟩
    have HB7:=Lib.hid (HB6.out.then_ hb7)
    have HD7:=Lib.hid hb7
    have hsW:w.heap.size+3≤W7.heap.size:=(HCX.out W7 hb7).2.2.2.2
    clear hW7 hb7 e0 hs7
    go_wp2_with fail
    refine wp_loop_rounds 3 ?_
    rw [rounds_succ]
    go_wp2_with fail
    obtain ⟨Wb,hWb⟩ : ∃ Wb,Wb=W7.alloc (.cells #[.int .i64 0] 3):=⟨_,rfl⟩
    rw [← hWb]
    have hbb:Bel W7 Wb:=by rw [hWb];exact (Bel.refl W7).alloc _
    have e5:Wb.cell? ⟨W7.heap.size,0,none⟩=some (.int .i64 0):=by rw [hWb];go_simp
    have hWs:Wb.heap.size=W7.heap.size+1:=by rw [hWb];simp
    have hseq:=evEach_seq 11 (by omega) (w₀:=W6) (w:=Wb) (B:=W6.heap.size) (n₀:=W7.heap.size+1) (HGG.out _ HB6.out) (.slice A5 s.length c5) s HBS.out.2 HBS.out.1 (by have:=HE7.out.2;omega) (HD7.out.then_ hbb) (by have:=HE7.out.2;omega) (by omega) (hbb.c HE7.out.1)
    rw [HLE.out] at hseq
    have HBB:=Lib.hid hbb
    have HWS:=Lib.hid hWs
    clear hWb hbb
    refine wp_countr3 12 (by omega) (gf:=54) (bd:=#[]) (lb:=#[.pointer (some ⟨W6.heap.size,0,none⟩)]) rfl (enters_of Tryz.func54 (by kernel_rfl) rfl) hseq (by simp;have:=HWS.out;omega) ((Below.refl _ _).alloc (by have:=HWS.out;omega) _) (fun x vs W hE=>by obtain ⟨_,_,_,_,_,_,e,_⟩:=hE;simp at e;rw [e];rfl) (erow8_own _) (W7.heap.size+1) (Nat.le_refl _) (by simp;have:=HWS.out;omega) (by rw [show W7.heap.size+1=Wb.heap.size by have:=HWS.out;omega];go_simp) (by rw [show W7.heap.size+1=Wb.heap.size by have:=HWS.out;omega];go_simp) 2 (fun j=>decide ((j:Int) ≥ many)) BX8 (bx8_own _) ?round (fun _ _ h=>h) ?out
    case round =>
     clear hseq
     intro lp x vs W1 hE hsz1
     obtain ⟨i,x⟩:=x
     obtain ⟨vc,vk,vu,vo,vn,vs',hvs,hin⟩:=hE
     dsimp only at hvs hin
     subst hvs
     obtain ⟨Ac,cc,Ak,ck,Au,cu,Ao,co,An,cn,As,cs,rfl,rfl,rfl,rfl,rfl,rfl⟩:=hin.opened
     unfold evV
     have HIN:=Lib.hid (hin.bel ((Bel.refl W1).alloc (.cells #[.int .i64 x.k,.string x.t,.slice Ac x.c.length cc,.slice Ak x.ky.length ck,.slice Au x.u.length cu,.slice Ao x.o.length co,.slice An x.n.length cn,.slice As x.ns.length cs] 31)))
     clear hin
     gi_wp2
     refine ⟨(by exact (Bel.refl W1).alloc _),⟨_,_,_,_,_,_,rfl,HIN.out⟩,W1.heap.size,⟨#[.int .i64 x.k,.string x.t,.slice Ac x.c.length cc,.slice Ak x.ky.length ck,.slice Au x.u.length cu,.slice Ao x.o.length co,.slice An x.n.length cn,.slice As x.ns.length cs],rfl,fun j u hu=>by rw [(Blk.new W1 31 #[.int .i64 x.k,.string x.t,.slice Ac x.c.length cc,.slice Ak x.ky.length ck,.slice Au x.u.length cu,.slice Ao x.o.length co,.slice An x.n.length cn,.slice As x.ns.length cs]).cell j];exact hu⟩,fun lp k Wr hx hlp hEb hBX hgW hcn hfn=>?_⟩
     obtain ⟨hik,hxk⟩:=enumE_back hx
     dsimp only at hik hxk
     have hik:=hik.symm
     subst hik
     obtain ⟨tc,tk,tu,to_,tn,ts,hvs2,hin2⟩:=hEb
     dsimp only at hvs2 hin2
     unfold evV at hvs2
     simp only [Array.mk.injEq,List.cons.injEq,Value.agg.injEq,and_true,true_and] at hvs2
     obtain ⟨rfl,rfl,rfl,rfl,rfl,rfl⟩:=hvs2
     obtain ⟨cs2,hcs2,hbx⟩:=hBX
     have hcs3:cs2 = #[.int .i64 x.k,.string x.t,.slice Ac x.c.length cc,.slice Ak x.ky.length ck,.slice Au x.u.length cu,.slice Ao x.o.length co,.slice An x.n.length cn,.slice As x.ns.length cs]:=by simpa using hcs2.symm
     subst hcs3
     have x0:=hbx 0 _ rfl
     have x1:=hbx 1 _ rfl
     have x2:=hbx 2 _ rfl
     have x3:=hbx 3 _ rfl
     have x4:=hbx 4 _ rfl
     have x5:=hbx 5 _ rfl
     have x6:=hbx 6 _ rfl
     have x7:=hbx 7 _ rfl
     have hlt:=(List.getElem?_eq_some_iff.1 hxk).1
     have hbr:Bel Wb Wr:=Bel.of_alloc8 hgW (by have:=HWS.out;omega)
     have hbr6:=(HD7.out.then_ HBB.out).then_ hbr
     obtain ⟨m0,m1,r1,r2,-⟩:=HCX.out _ hbr6
     have m5:=hbr.c e5
     obtain ⟨A',c',he,hcl,hm',hat⟩:=HEV.out.bel hbr6
     injection he with he1 he2 he3
     subst he1 he3
     obtain ⟨bl,off,rfl,hi⟩:=hat (by omega)
     obtain ⟨uc,uk,uu,uo,un,us,hya,y0,y1,y2,y3,y4,y5,y6,y7⟩:=hi k x hxk
     have HEQ:Hid (∀ V,Bel Wr V→Calls Tryz.prog 16 #[.agg #[.int .i64 x.k,.string x.t,.slice Ac x.c.length cc,.slice Ak x.ky.length ck,.slice Au x.u.length cu,.slice Ao x.o.length co,.slice An x.n.length cn,.slice As x.ns.length cs],.agg #[.int .i64 x.k,.string x.t,uc,uk,uu,uo,un,us]] V fun e w'=>e = .returned (.bool true)∧Bel V w'):=fun V hV=>by
      have:=r8Same_any x x _ _ _ _ _ _ uc uk uu uo un us V (hin2.bel hV) (hya.bel hV)
      rw [show sameE x x=true by rw [sameE_is];simp] at this
      exact this
     obtain ⟨Ac2,cc2,Ak2,ck2,Au2,cu2,Ao2,co2,An2,cn2,As2,cs2',rfl,rfl,rfl,rfl,rfl,rfl⟩:=hya.opened
     have hii:((k:Int) != k)=false:=by simp
     have hge:decide (L.length≤k)=false:=by simp;omega
     have hge2:decide ((L.length:Int)≤k)=false:=by simp;omega
     have hkI:(k:Int)<L.length:=by omega
     have hkJ : ¬ (L.length:Int)≤k:=by omega
     have HGW:=Lib.hid hgW
     clear hin2 hya hbx hcs2 hx hxk hgW hbr hbr6 hlt he2 hcl hm' hat hi HIN
     have X0 : ∀ S:After Wr,_:=fun S=>S.bel.c x0
     have Y0 : ∀ S:After Wr,_:=fun S=>S.bel.c y0
     have X1 : ∀ S:After Wr,_:=fun S=>S.bel.c x1
     have Y1 : ∀ S:After Wr,_:=fun S=>S.bel.c y1
     have X2 : ∀ S:After Wr,_:=fun S=>S.bel.c x2
     have Y2 : ∀ S:After Wr,_:=fun S=>S.bel.c y2
     have X3 : ∀ S:After Wr,_:=fun S=>S.bel.c x3
     have Y3 : ∀ S:After Wr,_:=fun S=>S.bel.c y3
     have X4 : ∀ S:After Wr,_:=fun S=>S.bel.c x4
     have Y4 : ∀ S:After Wr,_:=fun S=>S.bel.c y4
     have X5 : ∀ S:After Wr,_:=fun S=>S.bel.c x5
     have Y5 : ∀ S:After Wr,_:=fun S=>S.bel.c y5
     have X6 : ∀ S:After Wr,_:=fun S=>S.bel.c x6
     have Y6 : ∀ S:After Wr,_:=fun S=>S.bel.c y6
     have X7 : ∀ S:After Wr,_:=fun S=>S.bel.c x7
     have Y7 : ∀ S:After Wr,_:=fun S=>S.bel.c y7
     have N1 : ∀ S:After Wr,_:=fun S=>S.bel.c hcn
     have N2 : ∀ S:After Wr,_:=fun S=>S.bel.c m0
     clear x0 x1 x2 x3 x4 x5 x6 x7 y0 y1 y2 y3 y4 y5 y6 y7
     try dsimp only
     gi_wp2_with fail
     refine quiet_region_bel (W:=Wr) (Bel.refl Wr) (by kernel_rfl) (by kernel_rfl) (by kernel_rfl) ?_
     repeat ((refine wpQuietIn_step (fun _ _ _ _=>trivial) (fun K hK=>?_));go_simp;first | (refine hK _ ?_;clear hK K) | (apply Exists.intro;refine ⟨fun _=>?_,hK _ ?_⟩;exact (((callsIn_wide.2 (HEQ.out _ (After.bel _))).inRound lp).mono fun e w'' h=>⟨h.1,⟨⟨w'',(After.bel _).then_ h.2⟩,rfl⟩⟩);clear hK K))
     refine wpQuietIn_nil ?_
     intro w8 hw'
     obtain ⟨⟨wz,hb8⟩,hw''⟩:=hw'
     dsimp only at hw''
     subst hw''
     have q1:=hb8.c m1
     have q5:=hb8.c m5
     have q8:=hb8.c hcn
     have g8:=hb8.f hcn hfn
     have HG9:Hid (Wr.grownBy (w8.setCell ⟨W7.heap.size+1,0,none⟩ (.int .i64 ((k:Int)+1))) (some (W7.heap.size+1))):=grown_trans (Bel.grown hb8 _) (grown_setCell _ _ _)
     clear hb8 m0 m1 m5 r1 r2 hcn hfn hii hge hge2 X0 X1 X2 X3 X4 X5 X6 X7 Y0 Y1 Y2 Y3 Y4 Y5 Y6 Y7 N1 N2 HEQ
     by_cases hmy:many≤(k:Int)+1
     ·gi_wp2
      exact HG9.out
     ·have hmyb:decide (many≤(k:Int)+1)=false:=by simpa using hmy
      gi_wp2
      exact HG9.out
    case out =>
     clear hseq
     rw [enumE_len]
     intro D k W hcnt hD hgW hcn hdf
     have hk:=hcnt.upto
     have hbW:Bel Wb W:=Bel.of_alloc8 hgW (by have:=HWS.out;omega)
     obtain ⟨m0,m1,r1,r2,-⟩:=HCX.out _ ((HD7.out.then_ HBB.out).then_ hbW)
     have m5:=hbW.c e5
     have HDF:=Lib.hid hdf
     have HBb:=Lib.hid hbW
     have hk1:(k:Int)≤L.length:=by omega
     have hk2:(k:Int)≤max 1 many:=by omega
     have hk3:(L.length:Int)≤k ∨ max 1 many≤(k:Int):=by omega
     clear hgW hbW hcnt hk hdf e5
     have hmx:=ite_max
     have hmn:=ite_min
     have hb1:((k:Int) != min (L.length:Int) (max 1 many))=false:=by rw [bne_eq_false_iff_eq];omega
     have hb2:((k:Int) == min (L.length:Int) (max 1 many))=true:=by rw [beq_iff_eq];omega
     go_wp2_with fail
     all_goals
      clear hmx hmn hb1 hb2 hk1 hk2 hk3 hcn
      rw [rounds_succ]
      go_wp2_with fail
      obtain ⟨Wc,hWc⟩ : ∃ Wc,Wc=W.alloc (.cells #[.int .i64 1] 3):=⟨_,rfl⟩
      rw [← hWc]
      have hbb:Bel W Wc:=by rw [hWc];exact (Bel.refl W).alloc _
      have e5:Wc.cell? ⟨W.heap.size,0,none⟩=some (.int .i64 1):=by rw [hWc];go_simp
      have hWs:Wc.heap.size=W.heap.size+1:=by rw [hWc];simp
      have hb7c:Bel W7 Wc:=(HBB.out.then_ HBb.out).then_ hbb
      have hDW:D<W.heap.size:=(Array.getElem?_eq_some_iff.1 HDF.out).1
      have HDC:Hid (Wc.heap[D]? = some (.deferred (some []))):=(hbb.block D hDW).trans HDF.out
      have h7W:W7.heap.size≤W.heap.size:=(HBB.out.then_ HBb.out).size
      have hseq:=evEach_seq 11 (by omega) (w₀:=W6) (w:=Wc) (B:=W6.heap.size) (n₀:=W.heap.size+1) (HGG.out _ HB6.out) (.slice A5 s.length c5) s HBS.out.2 HBS.out.1 (by have:=HE7.out.2;omega) (HD7.out.then_ hb7c) (by have:=HE7.out.2;omega) (by omega) (hb7c.c HE7.out.1)
      rw [HLE.out] at hseq
      have HBC:=Lib.hid hb7c
      have HWC:=Lib.hid hWs
      have hsV2:w.heap.size+3≤W.heap.size:=by omega
      clear hWc hbb hb7c m0 m1 m5 r1 r2
      refine wp_countr3 12 (by omega) (gf:=54) (bd:=#[]) (lb:=#[.pointer (some ⟨W6.heap.size,0,none⟩)]) rfl (enters_of Tryz.func54 (by kernel_rfl) rfl) hseq (by simp;have:=HWC.out;omega) ((Below.refl _ _).alloc (by have:=HWC.out;omega) _) (fun x vs W hE=>by obtain ⟨_,_,_,_,_,_,e,_⟩:=hE;simp at e;rw [e];rfl) (erow8_own _) (W.heap.size+1) (Nat.le_refl _) (by simp;have:=HWC.out;omega) (by rw [show W.heap.size+1=Wc.heap.size by have:=HWC.out;omega];go_simp) (by rw [show W.heap.size+1=Wc.heap.size by have:=HWC.out;omega];go_simp) 2 (fun _=>false) BX8 (bx8_own _) ?round2 (fun _ _ h=>h) ?out2
      case round2 =>
       clear hseq
       intro lp x vs W1 hE hsz1
       obtain ⟨i,x⟩:=x
       obtain ⟨vc,vk,vu,vo,vn,vs',hvs,hin⟩:=hE
       dsimp only at hvs hin
       subst hvs
       obtain ⟨Ac,cc,Ak,ck,Au,cu,Ao,co,An,cn,As,cs,rfl,rfl,rfl,rfl,rfl,rfl⟩:=hin.opened
       unfold evV
       have HIN:=Lib.hid (hin.bel ((Bel.refl W1).alloc (.cells #[.int .i64 x.k,.string x.t,.slice Ac x.c.length cc,.slice Ak x.ky.length ck,.slice Au x.u.length cu,.slice Ao x.o.length co,.slice An x.n.length cn,.slice As x.ns.length cs] 31)))
       clear hin
       gi_wp2
       refine ⟨(by exact (Bel.refl W1).alloc _),⟨_,_,_,_,_,_,rfl,HIN.out⟩,W1.heap.size,⟨#[.int .i64 x.k,.string x.t,.slice Ac x.c.length cc,.slice Ak x.ky.length ck,.slice Au x.u.length cu,.slice Ao x.o.length co,.slice An x.n.length cn,.slice As x.ns.length cs],rfl,fun j u hu=>by rw [(Blk.new W1 31 #[.int .i64 x.k,.string x.t,.slice Ac x.c.length cc,.slice Ak x.ky.length ck,.slice Au x.u.length cu,.slice Ao x.o.length co,.slice An x.n.length cn,.slice As x.ns.length cs]).cell j];exact hu⟩,fun lp k Wr hx hlp hEb hBX hgW hcn hfn=>?_⟩
       obtain ⟨hik,hxk⟩:=enumE_back hx
       dsimp only at hik hxk
       have hik:=hik.symm
       subst hik
       obtain ⟨tc,tk,tu,to_,tn,ts,hvs2,hin2⟩:=hEb
       dsimp only at hvs2 hin2
       unfold evV at hvs2
       simp only [Array.mk.injEq,List.cons.injEq,Value.agg.injEq,and_true,true_and] at hvs2
       obtain ⟨rfl,rfl,rfl,rfl,rfl,rfl⟩:=hvs2
       obtain ⟨cs2,hcs2,hbx⟩:=hBX
       have hcs3:cs2 = #[.int .i64 x.k,.string x.t,.slice Ac x.c.length cc,.slice Ak x.ky.length ck,.slice Au x.u.length cu,.slice Ao x.o.length co,.slice An x.n.length cn,.slice As x.ns.length cs]:=by simpa using hcs2.symm
       subst hcs3
       have x0:=hbx 0 _ rfl
       have x1:=hbx 1 _ rfl
       have x2:=hbx 2 _ rfl
       have x3:=hbx 3 _ rfl
       have x4:=hbx 4 _ rfl
       have x5:=hbx 5 _ rfl
       have x6:=hbx 6 _ rfl
       have x7:=hbx 7 _ rfl
       have hlt:=(List.getElem?_eq_some_iff.1 hxk).1
       have hbr:Bel Wc Wr:=Bel.of_alloc8 hgW (by have:=HWC.out;omega)
       have hbr6:=(HD7.out.then_ HBC.out).then_ hbr
       obtain ⟨m0,m1,r1,r2,-⟩:=HCX.out _ hbr6
       have m5:=hbr.c e5
       obtain ⟨A',c',he,hcl,hm',hat⟩:=HEV.out.bel hbr6
       injection he with he1 he2 he3
       subst he1 he3
       obtain ⟨bl,off,rfl,hi⟩:=hat (by omega)
       obtain ⟨uc,uk,uu,uo,un,us,hya,y0,y1,y2,y3,y4,y5,y6,y7⟩:=hi k x hxk
       have HEQ:Hid (∀ V,Bel Wr V→Calls Tryz.prog 16 #[.agg #[.int .i64 x.k,.string x.t,.slice Ac x.c.length cc,.slice Ak x.ky.length ck,.slice Au x.u.length cu,.slice Ao x.o.length co,.slice An x.n.length cn,.slice As x.ns.length cs],.agg #[.int .i64 x.k,.string x.t,uc,uk,uu,uo,un,us]] V fun e w'=>e = .returned (.bool true)∧Bel V w'):=fun V hV=>by
        have:=r8Same_any x x _ _ _ _ _ _ uc uk uu uo un us V (hin2.bel hV) (hya.bel hV)
        rw [show sameE x x=true by rw [sameE_is];simp] at this
        exact this
       obtain ⟨Ac2,cc2,Ak2,ck2,Au2,cu2,Ao2,co2,An2,cn2,As2,cs2',rfl,rfl,rfl,rfl,rfl,rfl⟩:=hya.opened
       have hii:((k:Int) != k)=false:=by simp
       have hge:decide (L.length≤k)=false:=by simp;omega
       have hge2:decide ((L.length:Int)≤k)=false:=by simp;omega
       have hkI:(k:Int)<L.length:=by omega
       have hkJ : ¬ (L.length:Int)≤k:=by omega
       have HGW:=Lib.hid hgW
       clear hin2 hya hbx hcs2 hx hxk hgW hbr hbr6 hlt he2 hcl hm' hat hi HIN
       have X0 : ∀ S:After Wr,_:=fun S=>S.bel.c x0
       have Y0 : ∀ S:After Wr,_:=fun S=>S.bel.c y0
       have X1 : ∀ S:After Wr,_:=fun S=>S.bel.c x1
       have Y1 : ∀ S:After Wr,_:=fun S=>S.bel.c y1
       have X2 : ∀ S:After Wr,_:=fun S=>S.bel.c x2
       have Y2 : ∀ S:After Wr,_:=fun S=>S.bel.c y2
       have X3 : ∀ S:After Wr,_:=fun S=>S.bel.c x3
       have Y3 : ∀ S:After Wr,_:=fun S=>S.bel.c y3
       have X4 : ∀ S:After Wr,_:=fun S=>S.bel.c x4
       have Y4 : ∀ S:After Wr,_:=fun S=>S.bel.c y4
       have X5 : ∀ S:After Wr,_:=fun S=>S.bel.c x5
       have Y5 : ∀ S:After Wr,_:=fun S=>S.bel.c y5
       have X6 : ∀ S:After Wr,_:=fun S=>S.bel.c x6
       have Y6 : ∀ S:After Wr,_:=fun S=>S.bel.c y6
       have X7 : ∀ S:After Wr,_:=fun S=>S.bel.c x7
       have Y7 : ∀ S:After Wr,_:=fun S=>S.bel.c y7
       have N1 : ∀ S:After Wr,_:=fun S=>S.bel.c hcn
       have N2 : ∀ S:After Wr,_:=fun S=>S.bel.c m0
       clear x0 x1 x2 x3 x4 x5 x6 x7 y0 y1 y2 y3 y4 y5 y6 y7
       try dsimp only
       gi_wp2_with fail
       refine quiet_region_bel (W:=Wr) (Bel.refl Wr) (by kernel_rfl) (by kernel_rfl) (by kernel_rfl) ?_
       repeat ((refine wpQuietIn_step (fun _ _ _ _=>trivial) (fun K hK=>?_));go_simp;first | (refine hK _ ?_;clear hK K) | (apply Exists.intro;refine ⟨fun _=>?_,hK _ ?_⟩;exact (((callsIn_wide.2 (HEQ.out _ (After.bel _))).inRound lp).mono fun e w'' h=>⟨h.1,⟨⟨w'',(After.bel _).then_ h.2⟩,rfl⟩⟩);clear hK K))
       refine wpQuietIn_nil ?_
       intro w8 hw'
       obtain ⟨⟨wz,hb8⟩,hw''⟩:=hw'
       dsimp only at hw''
       subst hw''
       have q1:=hb8.c m1
       have q5:=hb8.c m5
       have q8:=hb8.c hcn
       have g8:=hb8.f hcn hfn
       have HG9:Hid (Wr.grownBy (w8.setCell ⟨W.heap.size+1,0,none⟩ (.int .i64 ((k:Int)+1))) (some (W.heap.size+1))):=grown_trans (Bel.grown hb8 _) (grown_setCell _ _ _)
       clear hb8 m0 m1 m5 r1 r2 hcn hfn hii hge hge2 X0 X1 X2 X3 X4 X5 X6 X7 Y0 Y1 Y2 Y3 Y4 Y5 Y6 Y7 N1 N2 HEQ
       gi_wp2
       all_goals exact HG9.out
      case out2 =>
       clear hseq
       rw [enumE_len]
       intro D' k' W' hcnt hD' hgW hcn hdf
       have hk:=hcnt.all
       have hbW:Bel Wc W':=Bel.of_alloc8 hgW (by have:=HWC.out;omega)
       obtain ⟨m0,m1,r1,r2,-⟩:=HCX.out _ ((HD7.out.then_ HBC.out).then_ hbW)
       have m5:=hbW.c e5
       have HDF1:Hid (W'.heap[D]? = some (.deferred (some []))):=(hbW.block D (Array.getElem?_eq_some_iff.1 HDC.out).1).trans HDC.out
       have HDF2:=Lib.hid hdf
       have HB2:=Lib.hid ((HB7.out.then_ HBC.out).then_ hbW)
       have HC2:=Lib.hid ((HD7.out.then_ HBC.out).then_ hbW)
       have hkk:((k':Int) != L.length)=false:=by rw [bne_eq_false_iff_eq];omega
       clear hgW hbW hcnt hdf e5 hk
       go_wp2_with fail
       all_goals
        clear hkk hcn m0 m5
        rw [rounds_succ]
        go_wp2_with fail
        have hba:Bel W' (W'.alloc (.cells #[.int .i64 2] 3)):=(Bel.refl _).alloc _
        refine (HW.out _ (HB2.out.then_ hba)).mono ?_
        rintro e w99 ⟨rfl,hb99⟩
        obtain ⟨-,-,r1,r2,-⟩:=HCX.out _ ((HC2.out.then_ hba).then_ hb99)
        have q1:w99.heap[D]? = some (.deferred (some [])):=hb99.deferred (hba.deferred HDF1.out)
        have q2:w99.heap[D']? = some (.deferred (some [])):=hb99.deferred (hba.deferred HDF2.out)
        have q3:Bel w w99:=(HB2.out.then_ hba).then_ hb99
        have hne:D ≠ D':=fun e=>by have:=(Array.getElem?_eq_some_iff.1 HDC.out).1;simp at hD';omega
        have hDw:w.heap.size≤D:=by simp at hD;have:=HWS.out;omega
        have hDw':w.heap.size≤D':=by simp at hD';have:=HWC.out;omega
        clear hba hnf
        go_wp2
        refine leavesM_collected (D:=D') (heap_setCell_deferred _ _ q2) (leavesM_collected (D:=D) (putObj_deferred (heap_setCell_deferred _ _ q1) hne _) (leavesM_nil ?_ ⟨rfl, ?_⟩))
        ·have hc:(w99.setCell ⟨w.heap.size+1+1,0,none⟩ (.bool true)).cell? ⟨w.heap.size+1+1,0,none⟩=some (.bool true):=by go_simp
         have hc2:=cell_putDeferred (cell_putDeferred hc (heap_setCell_deferred ⟨w.heap.size+1+1,0,none⟩ (.bool true) q2) (.deferred none)) (putObj_deferred (heap_setCell_deferred ⟨w.heap.size+1+1,0,none⟩ (.bool true) q1) hne (.deferred none)) (.deferred none)
         simp [results,Tryz.results8,go_sem,hc2]
        ·exact ((q3.setCell (by simp;omega) _).putObj hDw' _).putObj hDw _
   ·have hnb:(no != 0)=true:=by rw [bne_iff_ne];exact hn0
    go_wp2_with (first | (go_at_call 13;refine (l8num_any _ _).mono ?_;rintro e w' ⟨rfl,rfl⟩) | (go_at_call 25;fail))
    obtain ⟨W6,hW6⟩ : ∃ V,V=w6.setCell ⟨w.heap.size,0,none⟩ (.slice none 0 0):=⟨_,rfl⟩
    rw [← hW6]
    obtain ⟨L,hLl⟩ : ∃ L:List Ev,L=[]:=⟨_,rfl⟩
    obtain ⟨Al',hAl⟩ : ∃ A:Option Addr,A=none:=⟨_,rfl⟩
    obtain ⟨cl',hcl⟩ : ∃ c:Nat,c=0:=⟨_,rfl⟩
    have HB6:Hid (Bel w W6):=Lib.hid (by rw [hW6];exact (HB0.out.then_ HC6.out).setCell (Nat.le_refl _) _)
    have HCX:Hid (∀ V,Bel W6 V→V.cell? ⟨w.heap.size,0,none⟩=some (.slice Al' L.length cl')∧V.cell? ⟨w.heap.size+1,0,none⟩=some (.int .i64 many)∧V.cell? ⟨w.heap.size+1+1,0,none⟩=some (.bool false)∧V.frozen? ⟨w.heap.size+1+1,0,none⟩=false∧w.heap.size+3≤V.heap.size):=Lib.hid (fun V hV=>by
     have hf:=Below.frozen hV (p:=⟨w.heap.size+1+1,0,none⟩) (by rw [hW6];simp;omega)
     have hz:=hV.size
     rw [hW6] at hV hf hz
     rw [hLl,hAl,hcl]
     exact ⟨hV.c (by go_simp),hV.c (by go_simp),hV.c (by go_simp),hf.trans (by go_simp),by simp at hz;omega⟩)
    have HBS:Hid (BsAt W6 (.slice A5 s.length c5) s∧s.length≤1000000):=Lib.hid (by
     have hs0:=(HUP.out.2.2 hn0).1
     subst hs0
     exact ⟨⟨A5,c5,rfl,Nat.zero_le _,by have:=HV5.out;obtain ⟨_,_,he,_,h2,_⟩:=this;injection he with e1 e2 e3;subst e3;exact h2,by simp,fun h=>by simp at h⟩,by simp⟩)
    have HEV:Hid (EventsAt W6 (.slice Al' L.length cl') L):=Lib.hid (by rw [hLl,hAl,hcl];exact events_nil _)
    have HLE:Hid ((pickL (unpackE s)).1=L):=Lib.hid (by rw [hLl];exact (HUP.out.2.2 hn0).2)
    clear hW6 hLl hAl hcl HCL HC6 HV5 HEV0 HUP k5 k6 a0 a9 a1 r1 r2 hs6 hsz6 HB0 hn0 hnb
    have hLI:(L.length:Int)≤9223372036854775807:=by have:=HEV.out;obtain ⟨_,_,_,h1,h2,-⟩:=this;unfold maxLen at h2;omega
    refine (evEach_any _ _ _ _).mono ?_
    rintro e w' ⟨rfl,rfl⟩
    obtain ⟨W7,hW7⟩ : ∃ W7,W7=W6.alloc (.cells #[.slice A5 s.length c5] 34):=⟨_,rfl⟩
    have hb7:Bel W6 W7:=by rw [hW7];exact (Bel.refl W6).alloc _
    have e0:W7.cell? ⟨W6.heap.size,0,none⟩=some (.slice A5 s.length c5):=by rw [hW7];go_simp
    have hs7:W7.heap.size=W6.heap.size+1:=by rw [hW7];simp
    rw [← hW7]
    have HE7:Hid (W7.cell? ⟨W6.heap.size,0,none⟩=some (.slice A5 s.length c5)∧W7.heap.size=W6.heap.size+1):=⟨e0,hs7⟩
    have HB7:=Lib.hid (HB6.out.then_ hb7)
    have HD7:=Lib.hid hb7
    have hsW:w.heap.size+3≤W7.heap.size:=(HCX.out W7 hb7).2.2.2.2
    clear hW7 hb7 e0 hs7
    go_wp2_with fail
    refine wp_loop_rounds 3 ?_
    rw [rounds_succ]
    go_wp2_with fail
    obtain ⟨Wb,hWb⟩ : ∃ Wb,Wb=W7.alloc (.cells #[.int .i64 0] 3):=⟨_,rfl⟩
    rw [← hWb]
    have hbb:Bel W7 Wb:=by rw [hWb];exact (Bel.refl W7).alloc _
    have e5:Wb.cell? ⟨W7.heap.size,0,none⟩=some (.int .i64 0):=by rw [hWb];go_simp
    have hWs:Wb.heap.size=W7.heap.size+1:=by rw [hWb];simp
    have hseq:=evEach_seq 11 (by omega) (w₀:=W6) (w:=Wb) (B:=W6.heap.size) (n₀:=W7.heap.size+1) (HGG.out _ HB6.out) (.slice A5 s.length c5) s HBS.out.2 HBS.out.1 (by have:=HE7.out.2;omega) (HD7.out.then_ hbb) (by have:=HE7.out.2;omega) (by omega) (hbb.c HE7.out.1)
    rw [HLE.out] at hseq
    have HBB:=Lib.hid hbb
    have HWS:=Lib.hid hWs
    clear hWb hbb
    refine wp_countr3 12 (by omega) (gf:=54) (bd:=#[]) (lb:=#[.pointer (some ⟨W6.heap.size,0,none⟩)]) rfl (enters_of Tryz.func54 (by kernel_rfl) rfl) hseq (by simp;have:=HWS.out;omega) ((Below.refl _ _).alloc (by have:=HWS.out;omega) _) (fun x vs W hE=>by obtain ⟨_,_,_,_,_,_,e,_⟩:=hE;simp at e;rw [e];rfl) (erow8_own _) (W7.heap.size+1) (Nat.le_refl _) (by simp;have:=HWS.out;omega) (by rw [show W7.heap.size+1=Wb.heap.size by have:=HWS.out;omega];go_simp) (by rw [show W7.heap.size+1=Wb.heap.size by have:=HWS.out;omega];go_simp) 2 (fun j=>decide ((j:Int) ≥ many)) BX8 (bx8_own _) ?round (fun _ _ h=>h) ?out
    case round =>
     clear hseq
     intro lp x vs W1 hE hsz1
     obtain ⟨i,x⟩:=x
     obtain ⟨vc,vk,vu,vo,vn,vs',hvs,hin⟩:=hE
     dsimp only at hvs hin
     subst hvs
     obtain ⟨Ac,cc,Ak,ck,Au,cu,Ao,co,An,cn,As,cs,rfl,rfl,rfl,rfl,rfl,rfl⟩:=hin.opened
     unfold evV
     have HIN:=Lib.hid (hin.bel ((Bel.refl W1).alloc (.cells #[.int .i64 x.k,.string x.t,.slice Ac x.c.length cc,.slice Ak x.ky.length ck,.slice Au x.u.length cu,.slice Ao x.o.length co,.slice An x.n.length cn,.slice As x.ns.length cs] 31)))
     clear hin
     gi_wp2
     refine ⟨(by exact (Bel.refl W1).alloc _),⟨_,_,_,_,_,_,rfl,HIN.out⟩,W1.heap.size,⟨#[.int .i64 x.k,.string x.t,.slice Ac x.c.length cc,.slice Ak x.ky.length ck,.slice Au x.u.length cu,.slice Ao x.o.length co,.slice An x.n.length cn,.slice As x.ns.length cs],rfl,fun j u hu=>by rw [(Blk.new W1 31 #[.int .i64 x.k,.string x.t,.slice Ac x.c.length cc,.slice Ak x.ky.length ck,.slice Au x.u.length cu,.slice Ao x.o.length co,.slice An x.n.length cn,.slice As x.ns.length cs]).cell j];exact hu⟩,fun lp k Wr hx hlp hEb hBX hgW hcn hfn=>?_⟩
     obtain ⟨hik,hxk⟩:=enumE_back hx
     dsimp only at hik hxk
     have hik:=hik.symm
     subst hik
     obtain ⟨tc,tk,tu,to_,tn,ts,hvs2,hin2⟩:=hEb
     dsimp only at hvs2 hin2
     unfold evV at hvs2
     simp only [Array.mk.injEq,List.cons.injEq,Value.agg.injEq,and_true,true_and] at hvs2
     obtain ⟨rfl,rfl,rfl,rfl,rfl,rfl⟩:=hvs2
     obtain ⟨cs2,hcs2,hbx⟩:=hBX
     have hcs3:cs2 = #[.int .i64 x.k,.string x.t,.slice Ac x.c.length cc,.slice Ak x.ky.length ck,.slice Au x.u.length cu,.slice Ao x.o.length co,.slice An x.n.length cn,.slice As x.ns.length cs]:=by simpa using hcs2.symm
     subst hcs3
     have x0:=hbx 0 _ rfl
     have x1:=hbx 1 _ rfl
     have x2:=hbx 2 _ rfl
     have x3:=hbx 3 _ rfl
     have x4:=hbx 4 _ rfl
     have x5:=hbx 5 _ rfl
     have x6:=hbx 6 _ rfl
     have x7:=hbx 7 _ rfl
     have hlt:=(List.getElem?_eq_some_iff.1 hxk).1
     have hbr:Bel Wb Wr:=Bel.of_alloc8 hgW (by have:=HWS.out;omega)
     have hbr6:=(HD7.out.then_ HBB.out).then_ hbr
     obtain ⟨m0,m1,r1,r2,-⟩:=HCX.out _ hbr6
     have m5:=hbr.c e5
     obtain ⟨A',c',he,hcl,hm',hat⟩:=HEV.out.bel hbr6
     injection he with he1 he2 he3
     subst he1 he3
     obtain ⟨bl,off,rfl,hi⟩:=hat (by omega)
     obtain ⟨uc,uk,uu,uo,un,us,hya,y0,y1,y2,y3,y4,y5,y6,y7⟩:=hi k x hxk
     have HEQ:Hid (∀ V,Bel Wr V→Calls Tryz.prog 16 #[.agg #[.int .i64 x.k,.string x.t,.slice Ac x.c.length cc,.slice Ak x.ky.length ck,.slice Au x.u.length cu,.slice Ao x.o.length co,.slice An x.n.length cn,.slice As x.ns.length cs],.agg #[.int .i64 x.k,.string x.t,uc,uk,uu,uo,un,us]] V fun e w'=>e = .returned (.bool true)∧Bel V w'):=fun V hV=>by
      have:=r8Same_any x x _ _ _ _ _ _ uc uk uu uo un us V (hin2.bel hV) (hya.bel hV)
      rw [show sameE x x=true by rw [sameE_is];simp] at this
      exact this
     obtain ⟨Ac2,cc2,Ak2,ck2,Au2,cu2,Ao2,co2,An2,cn2,As2,cs2',rfl,rfl,rfl,rfl,rfl,rfl⟩:=hya.opened
     have hii:((k:Int) != k)=false:=by simp
     have hge:decide (L.length≤k)=false:=by simp;omega
     have hge2:decide ((L.length:Int)≤k)=false:=by simp;omega
     have hkI:(k:Int)<L.length:=by omega
     have hkJ : ¬ (L.length:Int)≤k:=by omega
     have HGW:=Lib.hid hgW
     clear hin2 hya hbx hcs2 hx hxk hgW hbr hbr6 hlt he2 hcl hm' hat hi HIN
     have X0 : ∀ S:After Wr,_:=fun S=>S.bel.c x0
     have Y0 : ∀ S:After Wr,_:=fun S=>S.bel.c y0
     have X1 : ∀ S:After Wr,_:=fun S=>S.bel.c x1
     have Y1 : ∀ S:After Wr,_:=fun S=>S.bel.c y1
     have X2 : ∀ S:After Wr,_:=fun S=>S.bel.c x2
     have Y2 : ∀ S:After Wr,_:=fun S=>S.bel.c y2
     have X3 : ∀ S:After Wr,_:=fun S=>S.bel.c x3
     have Y3 : ∀ S:After Wr,_:=fun S=>S.bel.c y3
     have X4 : ∀ S:After Wr,_:=fun S=>S.bel.c x4
     have Y4 : ∀ S:After Wr,_:=fun S=>S.bel.c y4
     have X5 : ∀ S:After Wr,_:=fun S=>S.bel.c x5
     have Y5 : ∀ S:After Wr,_:=fun S=>S.bel.c y5
     have X6 : ∀ S:After Wr,_:=fun S=>S.bel.c x6
     have Y6 : ∀ S:After Wr,_:=fun S=>S.bel.c y6
     have X7 : ∀ S:After Wr,_:=fun S=>S.bel.c x7
     have Y7 : ∀ S:After Wr,_:=fun S=>S.bel.c y7
     have N1 : ∀ S:After Wr,_:=fun S=>S.bel.c hcn
     have N2 : ∀ S:After Wr,_:=fun S=>S.bel.c m0
     clear x0 x1 x2 x3 x4 x5 x6 x7 y0 y1 y2 y3 y4 y5 y6 y7
     try dsimp only
     gi_wp2_with fail
     refine quiet_region_bel (W:=Wr) (Bel.refl Wr) (by kernel_rfl) (by kernel_rfl) (by kernel_rfl) ?_
     repeat ((refine wpQuietIn_step (fun _ _ _ _=>trivial) (fun K hK=>?_));go_simp;first | (refine hK _ ?_;clear hK K) | (apply Exists.intro;refine ⟨fun _=>?_,hK _ ?_⟩;exact (((callsIn_wide.2 (HEQ.out _ (After.bel _))).inRound lp).mono fun e w'' h=>⟨h.1,⟨⟨w'',(After.bel _).then_ h.2⟩,rfl⟩⟩);clear hK K))
     refine wpQuietIn_nil ?_
     intro w8 hw'
     obtain ⟨⟨wz,hb8⟩,hw''⟩:=hw'
     dsimp only at hw''
     subst hw''
     have q1:=hb8.c m1
     have q5:=hb8.c m5
     have q8:=hb8.c hcn
     have g8:=hb8.f hcn hfn
     have HG9:Hid (Wr.grownBy (w8.setCell ⟨W7.heap.size+1,0,none⟩ (.int .i64 ((k:Int)+1))) (some (W7.heap.size+1))):=grown_trans (Bel.grown hb8 _) (grown_setCell _ _ _)
     clear hb8 m0 m1 m5 r1 r2 hcn hfn hii hge hge2 X0 X1 X2 X3 X4 X5 X6 X7 Y0 Y1 Y2 Y3 Y4 Y5 Y6 Y7 N1 N2 HEQ
     by_cases hmy:many≤(k:Int)+1
     ·gi_wp2
      exact HG9.out
     ·have hmyb:decide (many≤(k:Int)+1)=false:=by simpa using hmy
      gi_wp2
      exact HG9.out
    case out =>
     clear hseq
     rw [enumE_len]
     intro D k W hcnt hD hgW hcn hdf
     have hk:=hcnt.upto
     have hbW:Bel Wb W:=Bel.of_alloc8 hgW (by have:=HWS.out;omega)
     obtain ⟨m0,m1,r1,r2,-⟩:=HCX.out _ ((HD7.out.then_ HBB.out).then_ hbW)
     have m5:=hbW.c e5
     have HDF:=Lib.hid hdf
     have HBb:=Lib.hid hbW
     have hk1:(k:Int)≤L.length:=by omega
     have hk2:(k:Int)≤max 1 many:=by omega
     have hk3:(L.length:Int)≤k ∨ max 1 many≤(k:Int):=by omega
     clear hgW hbW hcnt hk hdf e5
     have hmx:=ite_max
     have hmn:=ite_min
     have hb1:((k:Int) != min (L.length:Int) (max 1 many))=false:=by rw [bne_eq_false_iff_eq];omega
     have hb2:((k:Int) == min (L.length:Int) (max 1 many))=true:=by rw [beq_iff_eq];omega
     go_wp2_with fail
     all_goals
      clear hmx hmn hb1 hb2 hk1 hk2 hk3 hcn
      rw [rounds_succ]
      go_wp2_with fail
      obtain ⟨Wc,hWc⟩ : ∃ Wc,Wc=W.alloc (.cells #[.int .i64 1] 3):=⟨_,rfl⟩
      rw [← hWc]
      have hbb:Bel W Wc:=by rw [hWc];exact (Bel.refl W).alloc _
      have e5:Wc.cell? ⟨W.heap.size,0,none⟩=some (.int .i64 1):=by rw [hWc];go_simp
      have hWs:Wc.heap.size=W.heap.size+1:=by rw [hWc];simp
      have hb7c:Bel W7 Wc:=(HBB.out.then_ HBb.out).then_ hbb
      have hDW:D<W.heap.size:=(Array.getElem?_eq_some_iff.1 HDF.out).1
      have HDC:Hid (Wc.heap[D]? = some (.deferred (some []))):=(hbb.block D hDW).trans HDF.out
      have h7W:W7.heap.size≤W.heap.size:=(HBB.out.then_ HBb.out).size
      have hseq:=evEach_seq 11 (by omega) (w₀:=W6) (w:=Wc) (B:=W6.heap.size) (n₀:=W.heap.size+1) (HGG.out _ HB6.out) (.slice A5 s.length c5) s HBS.out.2 HBS.out.1 (by have:=HE7.out.2;omega) (HD7.out.then_ hb7c) (by have:=HE7.out.2;omega) (by omega) (hb7c.c HE7.out.1)
      rw [HLE.out] at hseq
      have HBC:=Lib.hid hb7c
      have HWC:=Lib.hid hWs
      have hsV2:w.heap.size+3≤W.heap.size:=by omega
      clear hWc hbb hb7c m0 m1 m5 r1 r2
      refine wp_countr3 12 (by omega) (gf:=54) (bd:=#[]) (lb:=#[.pointer (some ⟨W6.heap.size,0,none⟩)]) rfl (enters_of Tryz.func54 (by kernel_rfl) rfl) hseq (by simp;have:=HWC.out;omega) ((Below.refl _ _).alloc (by have:=HWC.out;omega) _) (fun x vs W hE=>by obtain ⟨_,_,_,_,_,_,e,_⟩:=hE;simp at e;rw [e];rfl) (erow8_own _) (W.heap.size+1) (Nat.le_refl _) (by simp;have:=HWC.out;omega) (by rw [show W.heap.size+1=Wc.heap.size by have:=HWC.out;omega];go_simp) (by rw [show W.heap.size+1=Wc.heap.size by have:=HWC.out;omega];go_simp) 2 (fun _=>false) BX8 (bx8_own _) ?round2 (fun _ _ h=>h) ?out2
      case round2 =>
       clear hseq
       intro lp x vs W1 hE hsz1
       obtain ⟨i,x⟩:=x
       obtain ⟨vc,vk,vu,vo,vn,vs',hvs,hin⟩:=hE
       dsimp only at hvs hin
       subst hvs
       obtain ⟨Ac,cc,Ak,ck,Au,cu,Ao,co,An,cn,As,cs,rfl,rfl,rfl,rfl,rfl,rfl⟩:=hin.opened
       unfold evV
       have HIN:=Lib.hid (hin.bel ((Bel.refl W1).alloc (.cells #[.int .i64 x.k,.string x.t,.slice Ac x.c.length cc,.slice Ak x.ky.length ck,.slice Au x.u.length cu,.slice Ao x.o.length co,.slice An x.n.length cn,.slice As x.ns.length cs] 31)))
       clear hin
       gi_wp2
       refine ⟨(by exact (Bel.refl W1).alloc _),⟨_,_,_,_,_,_,rfl,HIN.out⟩,W1.heap.size,⟨#[.int .i64 x.k,.string x.t,.slice Ac x.c.length cc,.slice Ak x.ky.length ck,.slice Au x.u.length cu,.slice Ao x.o.length co,.slice An x.n.length cn,.slice As x.ns.length cs],rfl,fun j u hu=>by rw [(Blk.new W1 31 #[.int .i64 x.k,.string x.t,.slice Ac x.c.length cc,.slice Ak x.ky.length ck,.slice Au x.u.length cu,.slice Ao x.o.length co,.slice An x.n.length cn,.slice As x.ns.length cs]).cell j];exact hu⟩,fun lp k Wr hx hlp hEb hBX hgW hcn hfn=>?_⟩
       obtain ⟨hik,hxk⟩:=enumE_back hx
       dsimp only at hik hxk
       have hik:=hik.symm
       subst hik
       obtain ⟨tc,tk,tu,to_,tn,ts,hvs2,hin2⟩:=hEb
       dsimp only at hvs2 hin2
       unfold evV at hvs2
       simp only [Array.mk.injEq,List.cons.injEq,Value.agg.injEq,and_true,true_and] at hvs2
       obtain ⟨rfl,rfl,rfl,rfl,rfl,rfl⟩:=hvs2
       obtain ⟨cs2,hcs2,hbx⟩:=hBX
       have hcs3:cs2 = #[.int .i64 x.k,.string x.t,.slice Ac x.c.length cc,.slice Ak x.ky.length ck,.slice Au x.u.length cu,.slice Ao x.o.length co,.slice An x.n.length cn,.slice As x.ns.length cs]:=by simpa using hcs2.symm
       subst hcs3
       have x0:=hbx 0 _ rfl
       have x1:=hbx 1 _ rfl
       have x2:=hbx 2 _ rfl
       have x3:=hbx 3 _ rfl
       have x4:=hbx 4 _ rfl
       have x5:=hbx 5 _ rfl
       have x6:=hbx 6 _ rfl
       have x7:=hbx 7 _ rfl
       have hlt:=(List.getElem?_eq_some_iff.1 hxk).1
       have hbr:Bel Wc Wr:=Bel.of_alloc8 hgW (by have:=HWC.out;omega)
       have hbr6:=(HD7.out.then_ HBC.out).then_ hbr
       obtain ⟨m0,m1,r1,r2,-⟩:=HCX.out _ hbr6
       have m5:=hbr.c e5
       obtain ⟨A',c',he,hcl,hm',hat⟩:=HEV.out.bel hbr6
       injection he with he1 he2 he3
       subst he1 he3
       obtain ⟨bl,off,rfl,hi⟩:=hat (by omega)
       obtain ⟨uc,uk,uu,uo,un,us,hya,y0,y1,y2,y3,y4,y5,y6,y7⟩:=hi k x hxk
       have HEQ:Hid (∀ V,Bel Wr V→Calls Tryz.prog 16 #[.agg #[.int .i64 x.k,.string x.t,.slice Ac x.c.length cc,.slice Ak x.ky.length ck,.slice Au x.u.length cu,.slice Ao x.o.length co,.slice An x.n.length cn,.slice As x.ns.length cs],.agg #[.int .i64 x.k,.string x.t,uc,uk,uu,uo,un,us]] V fun e w'=>e = .returned (.bool true)∧Bel V w'):=fun V hV=>by
        have:=r8Same_any x x _ _ _ _ _ _ uc uk uu uo un us V (hin2.bel hV) (hya.bel hV)
        rw [show sameE x x=true by rw [sameE_is];simp] at this
        exact this
       obtain ⟨Ac2,cc2,Ak2,ck2,Au2,cu2,Ao2,co2,An2,cn2,As2,cs2',rfl,rfl,rfl,rfl,rfl,rfl⟩:=hya.opened
       have hii:((k:Int) != k)=false:=by simp
       have hge:decide (L.length≤k)=false:=by simp;omega
       have hge2:decide ((L.length:Int)≤k)=false:=by simp;omega
       have hkI:(k:Int)<L.length:=by omega
       have hkJ : ¬ (L.length:Int)≤k:=by omega
       have HGW:=Lib.hid hgW
       clear hin2 hya hbx hcs2 hx hxk hgW hbr hbr6 hlt he2 hcl hm' hat hi HIN
       have X0 : ∀ S:After Wr,_:=fun S=>S.bel.c x0
       have Y0 : ∀ S:After Wr,_:=fun S=>S.bel.c y0
       have X1 : ∀ S:After Wr,_:=fun S=>S.bel.c x1
       have Y1 : ∀ S:After Wr,_:=fun S=>S.bel.c y1
       have X2 : ∀ S:After Wr,_:=fun S=>S.bel.c x2
       have Y2 : ∀ S:After Wr,_:=fun S=>S.bel.c y2
       have X3 : ∀ S:After Wr,_:=fun S=>S.bel.c x3
       have Y3 : ∀ S:After Wr,_:=fun S=>S.bel.c y3
       have X4 : ∀ S:After Wr,_:=fun S=>S.bel.c x4
       have Y4 : ∀ S:After Wr,_:=fun S=>S.bel.c y4
       have X5 : ∀ S:After Wr,_:=fun S=>S.bel.c x5
       have Y5 : ∀ S:After Wr,_:=fun S=>S.bel.c y5
       have X6 : ∀ S:After Wr,_:=fun S=>S.bel.c x6
       have Y6 : ∀ S:After Wr,_:=fun S=>S.bel.c y6
       have X7 : ∀ S:After Wr,_:=fun S=>S.bel.c x7
       have Y7 : ∀ S:After Wr,_:=fun S=>S.bel.c y7
       have N1 : ∀ S:After Wr,_:=fun S=>S.bel.c hcn
       have N2 : ∀ S:After Wr,_:=fun S=>S.bel.c m0
       clear x0 x1 x2 x3 x4 x5 x6 x7 y0 y1 y2 y3 y4 y5 y6 y7
       try dsimp only
       gi_wp2_with fail
       refine quiet_region_bel (W:=Wr) (Bel.refl Wr) (by kernel_rfl) (by kernel_rfl) (by kernel_rfl) ?_
       repeat ((refine wpQuietIn_step (fun _ _ _ _=>trivial) (fun K hK=>?_));go_simp;first | (refine hK _ ?_;clear hK K) | (apply Exists.intro;refine ⟨fun _=>?_,hK _ ?_⟩;exact (((callsIn_wide.2 (HEQ.out _ (After.bel _))).inRound lp).mono fun e w'' h=>⟨h.1,⟨⟨w'',(After.bel _).then_ h.2⟩,rfl⟩⟩);clear hK K))
       refine wpQuietIn_nil ?_
       intro w8 hw'
       obtain ⟨⟨wz,hb8⟩,hw''⟩:=hw'
       dsimp only at hw''
       subst hw''
       have q1:=hb8.c m1
       have q5:=hb8.c m5
       have q8:=hb8.c hcn
       have g8:=hb8.f hcn hfn
       have HG9:Hid (Wr.grownBy (w8.setCell ⟨W.heap.size+1,0,none⟩ (.int .i64 ((k:Int)+1))) (some (W.heap.size+1))):=grown_trans (Bel.grown hb8 _) (grown_setCell _ _ _)
       clear hb8 m0 m1 m5 r1 r2 hcn hfn hii hge hge2 X0 X1 X2 X3 X4 X5 X6 X7 Y0 Y1 Y2 Y3 Y4 Y5 Y6 Y7 N1 N2 HEQ
       gi_wp2
       all_goals exact HG9.out
      case out2 =>
       clear hseq
       rw [enumE_len]
       intro D' k' W' hcnt hD' hgW hcn hdf
       have hk:=hcnt.all
       have hbW:Bel Wc W':=Bel.of_alloc8 hgW (by have:=HWC.out;omega)
       obtain ⟨m0,m1,r1,r2,-⟩:=HCX.out _ ((HD7.out.then_ HBC.out).then_ hbW)
       have m5:=hbW.c e5
       have HDF1:Hid (W'.heap[D]? = some (.deferred (some []))):=(hbW.block D (Array.getElem?_eq_some_iff.1 HDC.out).1).trans HDC.out
       have HDF2:=Lib.hid hdf
       have HB2:=Lib.hid ((HB7.out.then_ HBC.out).then_ hbW)
       have HC2:=Lib.hid ((HD7.out.then_ HBC.out).then_ hbW)
       have hkk:((k':Int) != L.length)=false:=by rw [bne_eq_false_iff_eq];omega
       clear hgW hbW hcnt hdf e5 hk
       go_wp2_with fail
       all_goals
        clear hkk hcn m0 m5
        rw [rounds_succ]
        go_wp2_with fail
        have hba:Bel W' (W'.alloc (.cells #[.int .i64 2] 3)):=(Bel.refl _).alloc _
        refine (HW.out _ (HB2.out.then_ hba)).mono ?_
        rintro e w99 ⟨rfl,hb99⟩
        obtain ⟨-,-,r1,r2,-⟩:=HCX.out _ ((HC2.out.then_ hba).then_ hb99)
        have q1:w99.heap[D]? = some (.deferred (some [])):=hb99.deferred (hba.deferred HDF1.out)
        have q2:w99.heap[D']? = some (.deferred (some [])):=hb99.deferred (hba.deferred HDF2.out)
        have q3:Bel w w99:=(HB2.out.then_ hba).then_ hb99
        have hne:D ≠ D':=fun e=>by have:=(Array.getElem?_eq_some_iff.1 HDC.out).1;simp at hD';omega
        have hDw:w.heap.size≤D:=by simp at hD;have:=HWS.out;omega
        have hDw':w.heap.size≤D':=by simp at hD';have:=HWC.out;omega
        clear hba hnf
        go_wp2
        refine leavesM_collected (D:=D') (heap_setCell_deferred _ _ q2) (leavesM_collected (D:=D) (putObj_deferred (heap_setCell_deferred _ _ q1) hne _) (leavesM_nil ?_ ⟨rfl, ?_⟩))
        ·have hc:(w99.setCell ⟨w.heap.size+1+1,0,none⟩ (.bool true)).cell? ⟨w.heap.size+1+1,0,none⟩=some (.bool true):=by go_simp
         have hc2:=cell_putDeferred (cell_putDeferred hc (heap_setCell_deferred ⟨w.heap.size+1+1,0,none⟩ (.bool true) q2) (.deferred none)) (putObj_deferred (heap_setCell_deferred ⟨w.heap.size+1+1,0,none⟩ (.bool true) q1) hne (.deferred none)) (.deferred none)
         simp [results,Tryz.results8,go_sem,hc2]
        ·exact ((q3.setCell (by simp;omega) _).putObj hDw' _).putObj hDw _
end
end Go.Proofs.YtnajjhgbombboaaGreatDoor
