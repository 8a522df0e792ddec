/-
  Texts behind the statement: part 29.
-/
import Derived.Test.YtnajjhgbombboaaGreatDoorP28
set_option linter.unusedVariables false
set_option linter.unusedSimpArgs false
namespace Go.Proofs.YtnajjhgbombboaaGreatDoor
section
open Go.RowKit Go.Shelf Go.Lib
attribute [local go_sem] Oper.semAt_some
theorem l8num_any (n:Int) (w:World):Calls Tryz.prog 13 #[.int .i64 n] w fun e w'=>e = .returned (.int .i64 n)∧w=w':=by
 go_enter Tryz.func13,Tryz.ntmps13
 go_wp2
 go_ret
 exact ⟨rfl,rfl⟩
def FewP (e:Ev):Prop:=e.c.length≤12∧e.ky.length≤12∧e.u.length≤6
set_option maxRecDepth 100000 in
theorem FewP.sz {e:Ev} (h:FewP e) (hi:e.In):e.Sz∧(e.c.length≤1000000∧e.ky.length≤1000000∧e.u.length≤1000000):=by
 obtain ⟨h1,h2,h3⟩:=h
 have e0:maxLen≤9223372036854775807:=by unfold maxLen;omega
 have t1:=hi.t
 have t2:=hi.c
 have t3:=hi.ns
 clear hi
 generalize maxLen=M at e0 t1 t2 t3
 refine ⟨⟨by omega,fun c hc=>?_,fun p hp=>⟨?_, ?_⟩⟩,by omega,by omega,by omega⟩
 ·have:=t2 c hc;omega
 ·have:=(t3 p hp).1;omega
 ·have:=(t3 p hp).2;omega
set_option maxRecDepth 100000 in
theorem bs_conv {w:World} {A:Option Addr} {c:Nat} {s:List UInt8} (h:BsAt w (.slice A s.length c) s):(convert 34 9 (.slice A s.length c)).run Tryz.prog w = .ok (.string ⟨s.toArray⟩) w:=by
 obtain ⟨A',c',he,-,-,hr⟩:=h
 injection he with e1 e2 e3
 subst e1 e3
 exact conv_reads (s:=s) _ hr
end
section
open Go.RowKit Go.Shelf Go.Lib
attribute [local go_sem] Oper.semAt_some
set_option maxRecDepth 100000 in
set_option maxHeartbeats 8000000 in
theorem epack_any (vl:Value) (l:List Ev) (w:World) (hg:ErrType w) (hl:EventsAt w vl l) (hwf : ∀ x ∈ l,x.Wf):Calls Tryz.prog 22 #[vl] w fun e w'=>∃ v,e = .returned (.tuple #[v,.int .i64 (packR l).2])∧BsAt w' v (packR l).1∧Bel w w':=by
 obtain ⟨R,hR⟩ : ∃ R,R=packR l:=⟨_,rfl⟩
 rw [← hR]
 obtain ⟨A,c,rfl,hc,hm,hra⟩:=hl
 have HRA:=Lib.hid hra
 have HG:=Lib.hid hg
 have HWF:=Lib.hid hwf
 have hlI:(l.length:Int)≤9223372036854775807:=by unfold maxLen at hm;omega
 clear hra hg hwf hc hm
 unfold packR at hR
 by_cases h100 : 100<l.length
 ·rw [if_pos h100] at hR
  subst hR
  have hI:(100:Int)<l.length:=by omega
  clear h100
  go_enter Tryz.func22,Tryz.ntmps22
  go_wp2
  go_ret2
  exact ⟨_,rfl,⟨none,0,rfl,Nat.le_refl _,Nat.zero_le _,Reads.none_⟩,Bel.refl w⟩
 ·rw [if_neg h100] at hR
  have HR:=Lib.hid hR
  have hI : ¬ (100:Int)<l.length:=by omega
  have hI2:(l.length:Int)≤100:=by omega
  have HNU:=Lib.hid (fun V=>oNumberE_any l.length (by omega) V)
  have h9:=numB_9 (n:=l.length) (by omega)
  have hcv:IntKind.u64.wrap (l.length:Int)=(l.length:Int):=by simp only [IntKind.wrap,IntKind.bits,IntKind.signed];simp;omega
  clear hR h100
  go_enter Tryz.func22,Tryz.ntmps22
  go_wp2_with fail
  refine (HNU.out _).mono ?_
  rintro e1 w1 h1
  obtain ⟨A1,m1,c1,rfl,HR1,hb1⟩:=givesB_row (Bel.refl w) h1
  have hm1:m1≤9:=Nat.le_trans (Nat.le_of_eq HR1.out.1.symm) h9
  clear h1 hb1
  go_wp2
  go_loopw [4,18] (fun v i wr=>∃ (k nn:Nat) (A':Option Addr) (c':Nat),k≤l.length∧nn≤9+6018 * k∧v = .slice A' nn c'∧i = .int .i64 k∧Hid (∀ x ∈ l.take k,rightE x=true)∧Hid (Row8 w w.heap.size nn (.slice A' nn c') (numB l.length ++ encTs (l.take k)) wr)) (fun v i _=>l.length - (intOf i).toNat)
  case atStart=>exact ⟨0,_,_,_,Nat.zero_le _,by omega,rfl,rfl,(by show ∀ x ∈ l.take 0,_;intro x hx;simp at hx),by have:=HR1.out;show Row8 _ _ _ _ (numB l.length ++ []) _;rw [List.append_nil];exact this⟩
  case round =>
   obtain ⟨k,nn,A',c',hk,hnn,rfl,rfl,HAL,HRW⟩:=hrel
   by_cases hlt:k<l.length
   ·obtain ⟨x,hx⟩ : ∃ x,l[k]? = some x:=⟨_,List.getElem?_eq_getElem hlt⟩
    obtain ⟨b,off,rfl,hi⟩:=HRA.out (by omega)
    obtain ⟨vc,vk,vu,vo,vn,vs,hat,q0,q1,q2,q3,q4,q5,q6,q7⟩:=hi k x hx
    obtain ⟨Ac,cc,Ak,ck,Au,cu,Ao,co,An,cn,As,cs,rfl,rfl,rfl,rfl,rfl,rfl⟩:=hat.opened
    have hbw:=HRW.out.2.2.1
    have c0:=hbw.c q0
    have c1:=hbw.c q1
    have c2:=hbw.c q2
    have c3:=hbw.c q3
    have c4:=hbw.c q4
    have c5:=hbw.c q5
    have c6:=hbw.c q6
    have c7:=hbw.c q7
    have hkI:(k:Int)<l.length:=by omega
    have hxm:x ∈ l:=List.mem_of_getElem? hx
    have hxw:=HWF.out x hxm
    have HEN:=Lib.hid (fun V (hV:Bel w V)=>eencode_any x _ _ _ _ _ _ V (HG.out.bel hV) hxw (hat.bel hV))
    have hbl:b<wr.heap.size:=World.block_lt_of_cell? (w:=wr) (a:=⟨b,off+k * 8,none⟩) c0
    have HTK:Hid (encTs (l.take (k+1))=encTs (l.take k) ++ encT x):=Lib.hid (by rw [List.take_add_one,hx];exact encTs_app _ _)
    have HNX:Hid (rightE x=true → ∀ y ∈ l.take (k+1),rightE y=true):=Lib.hid (fun h y hy=>by
     rw [List.take_add_one,hx] at hy
     rcases List.mem_append.1 hy with hy | hy
     ·exact HAL.out y hy
     ·simp at hy;rw [hy];exact h)
    have HNO:Hid (rightE x=false→R=([],2)):=Lib.hid (fun h=>by
     rw [HR.out,if_neg (fun ha=>by rw [List.all_eq_true.1 ha x hxm] at h;cases h)])
    unfold encER evV at HEN
    have HBW:=Lib.hid hbw
    clear hi hx hat q0 q1 q2 q3 q4 q5 q6 q7 hbw
    cases hrx:rightE x with
    | false =>
      have hR0:=HNO.out hrx
      subst hR0
      rw [hrx] at HEN
      simp only [Bool.false_eq_true,if_false] at HEN
      go_wp2_with fail
      refine (HEN.out _ (HBW.out.alloc _)).mono ?_
      rintro e2 w2 ⟨v2,rfl,hv2,hb2⟩
      obtain ⟨A2,c2',rfl,-⟩:=hv2
      have HF:=Lib.hid ((HBW.out.alloc (.cells #[.int .i64 x.k,.string x.t,.slice Ac x.c.length cc,.slice Ak x.ky.length ck,.slice Au x.u.length cu,.slice Ao x.o.length co,.slice An x.n.length cn,.slice As x.ns.length cs] 31)).then_ hb2)
      clear hb2 HRW
      go_wp2
      go_ret2
      exact ⟨_,rfl,⟨none,0,rfl,Nat.le_refl _,Nat.zero_le _,Reads.none_⟩,HF.out⟩
    | true =>
      rw [hrx] at HEN
      simp only [if_true] at HEN
      have hel:=encE_len hrx hxw
      have htl:=encT_len hrx hxw
      have HTX:=Lib.hid (fun V=>etext_any ⟨(encE x).toArray⟩ (by show (encE x).toArray.size≤_;rw [List.size_toArray];omega) V)
      have hET:encT x=textB (encE x):=rfl
      dsimp only at HTX
      rw [← hET] at HTX
      have HNY:=Lib.hid (HNX.out hrx)
      generalize encE x=EX at HEN HTX
      clear hET hrx hel
      go_wp2_with fail
      refine (HEN.out _ (HBW.out.alloc _)).mono ?_
      rintro e2 w2 ⟨v2,rfl,⟨A2,c2',rfl,hv1,hv2,hv3⟩,hb2⟩
      have hcs:=conv_reads c2' hv3
      unfold strV at hcs
      have hb2w:=((Bel.refl wr).alloc (.cells #[.int .i64 x.k,.string x.t,.slice Ac x.c.length cc,.slice Ak x.ky.length ck,.slice Au x.u.length cu,.slice Ao x.o.length co,.slice An x.n.length cn,.slice As x.ns.length cs] 31)).then_ hb2
      have H2:=Lib.hid (HRW.out.bel hb2w)
      clear hb2 hb2w hv1 hv2 hv3 HRW HEN
      go_wp2_with fail
      refine (HTX.out _).mono ?_
      rintro e3 w3 h3
      obtain ⟨A3,m3,c3',rfl,HS3,hb3⟩:=givesB_src h3
      have hm3:m3≤6018:=Nat.le_trans (Nat.le_of_eq HS3.out.1.symm) htl
      have H3:=Lib.hid (H2.out.bel hb3)
      clear h3 hb3 H2
      go_wp2_with (at_builtin;refine app8 rfl (.tmp 30) (.tmp 33) rfl H3.out (by rfl) HS3.out (by rfl) (by omega) ?_;intro A4 c4' w4 H4)
      go_roundw
      case rel=>exact ⟨k+1,_,_,_,by omega,by omega,rfl,by go_num,HNY.out,by rw [HTK.out,← List.append_assoc];exact H4.out⟩
      case measure=>simp [intOf];omega
   ·obtain rfl:k=l.length:=by omega
    have hall:=HAL.out
    rw [List.take_length] at hall
    obtain rfl:R=(encEs l,0):=by rw [HR.out,if_pos (List.all_eq_true.2 hall)]
    have HF:Hid (Row8 w w.heap.size nn (.slice A' nn c') (encEs l) wr):=by have:=HRW.out;rw [List.take_length] at this;exact Lib.hid this
    clear HRW hall HAL
    go_wp2
    go_ret2
    obtain ⟨v,hv,hbs,hbb⟩:=HF.out.gives
    exact ⟨v,by rw [← hv];rfl,hbs,hbb⟩
end
section
open Go.RowKit Go.Shelf Go.Lib
attribute [local go_sem] Oper.semAt_some
theorem we1:encER (⟨5,⟨#[116]⟩,[],[],[],[],[],[]⟩:Ev)=([1,5,1,1,116],0):=by decide +kernel
theorem we2:encER (⟨3,⟨#[116]⟩,[],[],[],[⟨3,1,0,⟨#[]⟩⟩],[],[]⟩:Ev)=([1,3,1,1,116,1,2,3,1],0):=by decide +kernel
theorem wd1:decE [1,7]=none:=by decide +kernel
theorem wr1:rightE (⟨5,⟨#[84]⟩,[],[],[],[],[],[]⟩:Ev)=false:=by decide +kernel
theorem wp1:packR []=([0],0):=by decide +kernel
theorem evnil_at (w:World) (k:Int) (t:ByteArray):EvAt w (.slice none 0 0) (.slice none 0 0) (.slice none 0 0) (.slice none 0 0) (.slice none 0 0) (.slice none 0 0) ⟨k,t,[],[],[],[],[],[]⟩:=(⟨cols_none 0 _,ints_none 0 _,lists_none 0 _,vals_none 0 _,vals_none 0 _,pairs_none 0 _⟩:EvIn 0 w (.slice none 0 0) (.slice none 0 0) (.slice none 0 0) (.slice none 0 0) (.slice none 0 0) (.slice none 0 0) ⟨k,t,[],[],[],[],[],[]⟩).at_
theorem vals_one8 (w:World) (g:Nat) (x:Val) (h:w.heap[g]? = some (.cells #[.int .i64 x.k,.int .i64 x.n,.int .u64 x.u,.string x.b] 64 (0,0))):ValsAt w (.slice (some ⟨g,0,none⟩) 1 1) [x]:=by
 refine ⟨_,1,rfl,Nat.le_refl _,by unfold maxLen;omega,fun _=>⟨g,0,rfl,fun i z hz=>?_⟩⟩
 match i,hz with
 | 0,hz=>simp at hz;subst hz;simp [World.cell?,h]
 | k+1,hz=>simp at hz
theorem bs_block8 {w:World} {g:Nat} {s:List UInt8} {T:TypeId} (hm:s.length≤maxLen) (h:w.heap[g]? = some (.cells (s.map bv).toArray T (0,0))):BsAt w (.slice (some ⟨g,0,none⟩) s.length s.length) s:=by
 refine ⟨_,s.length,rfl,Nat.le_refl _,hm,by simp,fun _=>⟨_,rfl,(Array.getElem?_eq_some_iff.1 h).1,fun j u hu=>?_⟩⟩
 rw [add_free]
 simp [World.cell?,h]
 simpa using hu
set_option maxRecDepth 100000 in
set_option maxHeartbeats 8000000 in
theorem l8works_any (w:World) (hg:ErrType w):Calls Tryz.prog 10 #[] w fun e w'=>e = .returned (.bool true)∧Bel w w':=by
 have HG:=Lib.hid hg
 have HE1:Hid (Calls Tryz.prog 11 #[(.agg #[.int .i64 5,.string ⟨#[116]⟩,.slice none 0 0,.slice none 0 0,.slice none 0 0,.slice none 0 0,.slice none 0 0,.slice none 0 0])] w fun e w'=>∃ v,e = .returned (.tuple #[v,.int .i64 0])∧BsAt w' v [1,5,1,1,116]∧Bel w w'):=by
  have:=eencode_any (⟨5,⟨#[116]⟩,[],[],[],[],[],[]⟩:Ev) (.slice none 0 0) (.slice none 0 0) (.slice none 0 0) (.slice none 0 0) (.slice none 0 0) (.slice none 0 0) w hg (fun x hx=>by simp at hx) (evnil_at w 5 ⟨#[116]⟩)
  rw [we1] at this
  exact Lib.hid this
 have HE2:Hid (∀ V g,Bel w V→V.heap[g]? = some (.cells #[.int .i64 3,.int .i64 1,.int .u64 0,.string ⟨#[]⟩] 64 (0,0))→Calls Tryz.prog 11 #[(.agg #[.int .i64 3,.string ⟨#[116]⟩,.slice none 0 0,.slice none 0 0,.slice none 0 0,.slice (some ⟨g,0,none⟩) 1 1,.slice none 0 0,.slice none 0 0])] V fun e w'=>∃ v,e = .returned (.tuple #[v,.int .i64 0])∧BsAt w' v [1,3,1,1,116,1,2,3,1]∧Bel V w'):=fun V g h hk=>by
  have hn:=evnil_at V 3 ⟨#[116]⟩
  have:=eencode_any (⟨3,⟨#[116]⟩,[],[],[],[⟨3,1,0,⟨#[]⟩⟩],[],[]⟩:Ev) (.slice none 0 0) (.slice none 0 0) (.slice none 0 0) (.slice (some ⟨g,0,none⟩) 1 1) (.slice none 0 0) (.slice none 0 0) V (HG.out.bel h) (fun x hx=>by
   simp at hx
   subst hx
   exact wf_mk _ _ _ _ (by decide) (by decide) (by decide) (by decide)) ⟨hn.c,hn.ky,hn.u,vals_one8 V g ⟨3,1,0,⟨#[]⟩⟩ hk,hn.n,hn.ns⟩
  rw [we2] at this
  exact this
 have HD:Hid (∀ V g,Bel w V→V.heap[g]? = some (.cells #[.int .u8 1,.int .u8 7] 5 (0,0))→Calls Tryz.prog 15 #[.slice (some ⟨g,0,none⟩) 2 2] V fun e w'=>e = .returned (.tuple #[.agg #[.int .i64 0,.string ⟨#[]⟩,.slice none 0 0,.slice none 0 0,.slice none 0 0,.slice none 0 0,.slice none 0 0,.slice none 0 0],.int .i64 180])∧Bel V w'):=fun V g h hk=>by
  have hbs:BsAt V (.slice (some ⟨g,0,none⟩) 2 2) [1,7]:=bs_block8 (s:=[1,7]) (by unfold maxLen;simp) hk
  have:=edecode_any _ [1,7] (by simp) V (HG.out.bel h) hbs
  rw [wd1] at this
  exact this
 have HP:Hid (∀ V,Bel w V→Calls Tryz.prog 22 #[.slice none 0 0] V fun e w'=>∃ v,e = .returned (.tuple #[v,.int .i64 0])∧BsAt w' v [0]∧Bel V w'):=fun V h=>by
  have:=epack_any (.slice none 0 0) [] V (HG.out.bel h) (events_nil V) (fun x hx=>by cases hx)
  rw [wp1] at this
  exact this
 have HC:Hid (∀ V,Bel w V→Calls Tryz.prog 14 #[(.agg #[.int .i64 5,.string ⟨#[84]⟩,.slice none 0 0,.slice none 0 0,.slice none 0 0,.slice none 0 0,.slice none 0 0,.slice none 0 0])] V fun e w'=>e = .returned (.int .i64 2)∧Bel V w'):=fun V h=>by
  have:=echeck_any (⟨5,⟨#[84]⟩,[],[],[],[],[],[]⟩:Ev) (.slice none 0 0) (.slice none 0 0) (.slice none 0 0) (.slice none 0 0) (.slice none 0 0) (.slice none 0 0) V (HG.out.bel h) (evnil_at V 5 ⟨#[84]⟩)
  rw [wr1] at this
  exact this
 clear hg HG
 go_enter Tryz.func10,Tryz.ntmps10
 go_wp2_with fail
 refine HE1.out.mono ?_
 rintro e1 w1 ⟨v1,rfl,hv1,hb1⟩
 have HB1:=Lib.hid hb1
 have HV1:=Lib.hid hv1
 obtain ⟨A1',c1,rfl,-⟩:=hv1
 clear hb1 HE1
 go_wp2_with fail
 refine (HE2.out _ _ (HB1.out.alloc _) (World.alloc_heap_new _ _)).mono ?_
 rintro e2 w2 ⟨v2,rfl,hv2,hb2⟩
 have HB12:=Lib.hid (((Bel.refl w1).alloc (.cells #[.int .i64 3,.int .i64 1,.int .u64 0,.string ⟨#[]⟩] 64)).then_ hb2)
 have HB2:=Lib.hid (HB1.out.then_ HB12.out)
 have HV2:=Lib.hid hv2
 obtain ⟨A2',c2,rfl,-⟩:=hv2
 clear hb2 HE2
 go_wp2_with fail
 refine (HD.out _ _ (HB2.out.alloc _) (World.alloc_heap_new _ _)).mono ?_
 rintro e3 w3 ⟨rfl,hb3⟩
 have HB23:=Lib.hid ((((Bel.refl w2).alloc (.cells #[.int .u8 1,.int .u8 7] 5)).then_ hb3).alloc (.cells #[.int .i64 0,.string ⟨#[]⟩,.slice none 0 0,.slice none 0 0,.slice none 0 0,.slice none 0 0,.slice none 0 0,.slice none 0 0] 31))
 have HB3:=Lib.hid (HB2.out.then_ HB23.out)
 clear hb3 HD
 go_wp2_with fail
 refine (HP.out _ HB3.out).mono ?_
 rintro e4 w4 ⟨v4,rfl,hv4,hb4⟩
 have HB4:=Lib.hid (HB3.out.then_ hb4)
 have HV1:=Lib.hid (((HV1.out.bel HB12.out).bel HB23.out).bel hb4)
 have HV2:=Lib.hid ((HV2.out.bel HB23.out).bel hb4)
 have HV4:=Lib.hid hv4
 obtain ⟨A4',c4,rfl,-⟩:=hv4
 clear hb4 HP HB12 HB23 HB1 HB2 HB3
 obtain ⟨S1,hS1⟩ : ∃ x:ByteArray,x=⟨#[1,5,1,1,116]⟩:=⟨_,rfl⟩
 have HCV:Hid (∀ V,Bel w4 V→(convert 34 9 (.slice A1' 5 c1)).run Tryz.prog V = .ok (.string ⟨#[1,5,1,1,116]⟩) V∧(convert 34 9 (.slice A2' 9 c2)).run Tryz.prog V = .ok (.string ⟨#[1,3,1,1,116,1,2,3,1]⟩) V∧(convert 34 9 (.slice A4' 1 c4)).run Tryz.prog V = .ok (.string ⟨#[0]⟩) V):=fun V h =>
  ⟨bs_conv (s:=[1,5,1,1,116]) (HV1.out.bel h),bs_conv (s:=[1,3,1,1,116,1,2,3,1]) (HV2.out.bel h),bs_conv (s:=[0]) (HV4.out.bel h)⟩
 obtain ⟨hc1,hc2,hc4⟩:=HCV.out w4 (Bel.refl w4)
 clear HV1 HV2 HV4
 go_wp2_with (first | (go_at_call 13;refine (l8num_any _ _).mono ?_;rintro e w' ⟨rfl,rfl⟩) | (go_at_call 14;refine (HC.out _ HB4.out).mono ?_;rintro e5 w5 ⟨rfl,hb5⟩;obtain ⟨-,-,hc5⟩:=HCV.out w5 hb5))
 go_ret
 exact ⟨rfl,HB4.out.then_ hb5⟩
end
section
open Go.RowKit Go.Shelf Go.Lib
attribute [local go_sem] Oper.semAt_some
theorem vrby_any (t:Bool) (w:World):Calls Tryz.prog 119 #[.bool t] w fun e w'=>(∃ r:Int,e = .returned (.int .i64 r)∧r ≠ 0)∧w=w':=by
 cases t
 ·go_enter Tryz.func119,Tryz.ntmps119
  go_wp2
  go_ret
  exact ⟨⟨1,rfl,by decide⟩,rfl⟩
 ·go_enter Tryz.func119,Tryz.ntmps119
  go_wp2
  go_ret
  exact ⟨⟨-1,rfl,by decide⟩,rfl⟩
set_option maxHeartbeats 2000000 in
theorem vrOrder_any (x y:Val) (w:World):Calls Tryz.prog 118 #[x.v,y.v] w fun e w'=>(∃ r:Int,e = .returned (.int .i64 r)∧(r=0 ↔ x=y))∧Bel w w':=by
 obtain ⟨k,n,u,b⟩:=x
 obtain ⟨k',n',u',b'⟩:=y
 unfold Val.v
 dsimp only
 by_cases h1:k=k'
 ·subst h1
  by_cases h2:n=n'
  ·subst h2
   by_cases h3:u=u'
   ·subst h3
    by_cases h4:b=b'
    ·subst h4
     go_enter Tryz.func118,Tryz.ntmps118
     go_wp2_with fail
     go_ret
     exact ⟨⟨0,rfl,by simp⟩,by (repeat (first | exact Below.refl _ _ | assumption | exact Bel.refl _ | refine Bel.alloc ?_ _ | refine Bel.drew ?_ | refine Bel.drewN ?_ _ | refine Bel.then_ ?_ (by assumption) | refine Bel.setCell ?_ (by first | (simp;done) | (simp;omega)) _))⟩
    ·have hs:(b.toList == b'.toList)=false:=by rw [str_beq];exact decide_eq_false h4
     have HN:Hid (¬ ((⟨k,n,u,b⟩:Val)=⟨k,n,u,b'⟩)):=fun e=>h4 (by injection e)
     clear h4
     go_enter Tryz.func118,Tryz.ntmps118
     go_wp2_with (go_at_call 119;refine (vrby_any _ _).mono ?_;rintro e w' ⟨⟨r,rfl,hr⟩,rfl⟩)
     go_ret
     exact ⟨⟨r,rfl,by constructor <;> intro h <;> first | exact absurd h hr | exact absurd h HN.out⟩,by (repeat (first | exact Below.refl _ _ | assumption | exact Bel.refl _ | refine Bel.alloc ?_ _ | refine Bel.drew ?_ | refine Bel.drewN ?_ _ | refine Bel.then_ ?_ (by assumption) | refine Bel.setCell ?_ (by first | (simp;done) | (simp;omega)) _))⟩
   ·have hb:(u == u')=false:=by rw [beq_eq_false_iff_ne];exact h3
    have HN:Hid (¬ ((⟨k,n,u,b⟩:Val)=⟨k,n,u',b'⟩)):=fun e=>h3 (by injection e)
    go_enter Tryz.func118,Tryz.ntmps118
    go_wp2_with (go_at_call 119;refine (vrby_any _ _).mono ?_;rintro e w' ⟨⟨r,rfl,hr⟩,rfl⟩)
    go_ret
    exact ⟨⟨r,rfl,by constructor <;> intro h <;> first | exact absurd h hr | exact absurd h HN.out⟩,by (repeat (first | exact Below.refl _ _ | assumption | exact Bel.refl _ | refine Bel.alloc ?_ _ | refine Bel.drew ?_ | refine Bel.drewN ?_ _ | refine Bel.then_ ?_ (by assumption) | refine Bel.setCell ?_ (by first | (simp;done) | (simp;omega)) _))⟩
  ·have hb:(n == n')=false:=by rw [beq_eq_false_iff_ne];exact h2
   have HN:Hid (¬ ((⟨k,n,u,b⟩:Val)=⟨k,n',u',b'⟩)):=fun e=>h2 (by injection e)
   go_enter Tryz.func118,Tryz.ntmps118
   go_wp2_with (go_at_call 119;refine (vrby_any _ _).mono ?_;rintro e w' ⟨⟨r,rfl,hr⟩,rfl⟩)
   go_ret
   exact ⟨⟨r,rfl,by constructor <;> intro h <;> first | exact absurd h hr | exact absurd h HN.out⟩,by (repeat (first | exact Below.refl _ _ | assumption | exact Bel.refl _ | refine Bel.alloc ?_ _ | refine Bel.drew ?_ | refine Bel.drewN ?_ _ | refine Bel.then_ ?_ (by assumption) | refine Bel.setCell ?_ (by first | (simp;done) | (simp;omega)) _))⟩
 ·have hb:(k == k')=false:=by rw [beq_eq_false_iff_ne];exact h1
  have HN:Hid (¬ ((⟨k,n,u,b⟩:Val)=⟨k',n',u',b'⟩)):=fun e=>h1 (by injection e)
  go_enter Tryz.func118,Tryz.ntmps118
  go_wp2_with (go_at_call 119;refine (vrby_any _ _).mono ?_;rintro e w' ⟨⟨r,rfl,hr⟩,rfl⟩)
  go_ret
  exact ⟨⟨r,rfl,by constructor <;> intro h <;> first | exact absurd h hr | exact absurd h HN.out⟩,by (repeat (first | exact Below.refl _ _ | assumption | exact Bel.refl _ | refine Bel.alloc ?_ _ | refine Bel.drew ?_ | refine Bel.drewN ?_ _ | refine Bel.then_ ?_ (by assumption) | refine Bel.setCell ?_ (by first | (simp;done) | (simp;omega)) _))⟩
set_option maxRecDepth 100000 in
set_option maxHeartbeats 4000000 in
theorem vrLists_any (va vb:Value) (a b:List Val) (w:World) (ha:ValsAt w va a) (hb:ValsAt w vb b):Calls Tryz.prog 76 #[va,vb] w fun e w'=>(∃ r:Int,e = .returned (.int .i64 r)∧(r=0 ↔ a=b))∧Bel w w':=by
 obtain ⟨Aa,ca,rfl,hca,hma,hra⟩:=ha
 obtain ⟨Ab,cb,rfl,hcb,hmb,hrb⟩:=hb
 have haI:(a.length:Int)≤9223372036854775807:=by unfold maxLen at hma;omega
 have hbI:(b.length:Int)≤9223372036854775807:=by unfold maxLen at hmb;omega
 have HRA:=Lib.hid hra
 have HRB:=Lib.hid hrb
 clear hra hrb hma hmb hca hcb
 go_enter Tryz.func76,Tryz.ntmps76
 go_wp2
 go_loopw [5] (fun i wr=>∃ k:Nat,k≤a.length∧k≤b.length∧i = .int .i64 k∧Hid (Bel w wr)∧Hid (a.take k=b.take k)) (fun i _=>a.length - (intOf i).toNat)
 case atStart=>exact ⟨0,Nat.zero_le _,Nat.zero_le _,rfl,Bel.refl w,by show _=_;simp⟩
 case round =>
  obtain ⟨k,hk,hkb,rfl,HB,HT⟩:=hrel
  by_cases hlt:k<a.length∧k<b.length
  ·obtain ⟨hla,hlb⟩:=hlt
   obtain ⟨x,hx⟩ : ∃ x,a[k]? = some x:=⟨_,List.getElem?_eq_getElem hla⟩
   obtain ⟨y,hy⟩ : ∃ y,b[k]? = some y:=⟨_,List.getElem?_eq_getElem hlb⟩
   obtain ⟨ba,oa,rfl,hai⟩:=HRA.out (by omega)
   obtain ⟨bb,ob,rfl,hbi⟩:=HRB.out (by omega)
   obtain ⟨q0,q1,q2,q3⟩:=hai k x hx
   obtain ⟨r0,r1,r2,r3⟩:=hbi k y hy
   have hkI:(k:Int)<a.length:=by omega
   have hkJ:(k:Int)<b.length:=by omega
   have HS:Hid (∀ V,Bel wr V→(fun V:World=>V.cell? ⟨ba,oa+k * 4,none⟩=some (.int .i64 x.k)∧V.cell? ⟨ba,oa+k * 4+1,none⟩=some (.int .i64 x.n)∧V.cell? ⟨ba,oa+k * 4+2,none⟩=some (.int .u64 x.u)∧V.cell? ⟨ba,oa+k * 4+3,none⟩=some (.string x.b)∧V.cell? ⟨bb,ob+k * 4,none⟩=some (.int .i64 y.k)∧V.cell? ⟨bb,ob+k * 4+1,none⟩=some (.int .i64 y.n)∧V.cell? ⟨bb,ob+k * 4+2,none⟩=some (.int .u64 y.u)∧V.cell? ⟨bb,ob+k * 4+3,none⟩=some (.string y.b)) V):=fun V h =>
    ⟨(HB.out.then_ h).c q0,(HB.out.then_ h).c q1,(HB.out.then_ h).c q2,(HB.out.then_ h).c q3,(HB.out.then_ h).c r0,(HB.out.then_ h).c r1,(HB.out.then_ h).c r2,(HB.out.then_ h).c r3⟩
   have HNX:Hid (x=y→a.take (k+1)=b.take (k+1)):=fun e=>by rw [List.take_add_one,List.take_add_one,hx,hy,HT.out,e]
   have HNO:Hid (¬ x=y → ¬ a=b):=fun e h=>e (by rw [h,hy] at hx;exact (Option.some.inj hx).symm)
   have HOR:=Lib.hid (fun V=>vrOrder_any x y V)
   have HKK:Hid (k+1≤a.length∧k+1≤b.length):=⟨hla,hlb⟩
   unfold Val.v at HOR
   clear hx hy hai hbi q0 q1 q2 q3 r0 r1 r2 r3
   go_wp2
   refine wp_region_noPanic ?_
   refine wp_region_held_drew (S:=(fun V:World=>V.cell? ⟨ba,oa+k * 4,none⟩=some (.int .i64 x.k)∧V.cell? ⟨ba,oa+k * 4+1,none⟩=some (.int .i64 x.n)∧V.cell? ⟨ba,oa+k * 4+2,none⟩=some (.int .u64 x.u)∧V.cell? ⟨ba,oa+k * 4+3,none⟩=some (.string x.b)∧V.cell? ⟨bb,ob+k * 4,none⟩=some (.int .i64 y.k)∧V.cell? ⟨bb,ob+k * 4+1,none⟩=some (.int .i64 y.n)∧V.cell? ⟨bb,ob+k * 4+2,none⟩=some (.int .u64 y.u)∧V.cell? ⟨bb,ob+k * 4+3,none⟩=some (.string y.b))) (by kernel_rfl) ?_ (fun hHr1_0=>?_)
   ·(try dsimp only);(first | assumption | exact HS.out _ (Bel.refl _).drew | exact HS.out _ (Bel.then_ (Bel.refl _).drew hb7))
   refine tk 0 ?_
   refine tk 1 ?_
   refine tk 2 ?_
   refine tk 3 ?_
   refine tk 4 ?_
   refine tk 5 ?_
   refine tk 6 ?_
   refine tk 7 ?_
   refine rd1 8 (fun K hK=>?_)
   go_simp
   (go_at_call 118;refine (HOR.out _).mono ?_;rintro e w7 ⟨⟨r,rfl,hr⟩,hb7⟩)
   try (go_wp2_with fail)
   refine hK.out _ _ ?_ (fun hHr1_1=>?_)
   ·(try dsimp only);(first | assumption | exact HS.out _ (Bel.refl _).drew | exact HS.out _ (Bel.then_ (Bel.refl _).drew hb7))
   clear hK K hHr1_0
   try simp only [tkp0,tkp1,tkp2,tkp3,tkp4,tkp5,tkp6,tkp7]
   refine tk 9 ?_
   refine wpAnyH_done (by kernel_rfl) ?_ _
   refine NoPanic.normal ?_
   have HB7:=Lib.hid (HB.out.then_ ((Bel.refl wr).drew.then_ hb7))
   clear hb7 hHr1_1
   have HRR:=Lib.hid hr
   clear hr
   by_cases h0:r=0
   ·have ht:=Lib.hid (HNX.out (HRR.out.1 h0))
    subst h0
    go_wp2
    go_roundw
    case rel=>exact ⟨k+1,HKK.out.1,HKK.out.2,by go_num,HB7.out,ht.out⟩
    case measure=>have:=HKK.out;simp [intOf];omega
   ·have hkb:(r != 0)=true:=by rw [bne_iff_ne];exact h0
    have hf:=Lib.hid (HNO.out (fun e=>h0 (HRR.out.2 e)))
    go_wp2
    go_ret
    exact ⟨⟨r,rfl,by constructor <;> intro h <;> first | exact absurd h h0 | exact absurd h hf.out⟩,HB7.out⟩
  ·by_cases hab:a.length=b.length
   ·have hkE:k=a.length:=by omega
    subst hkE
    have HEQ:Hid (a=b):=by show _=_;have:=HT.out;rwa [List.take_length,hab,List.take_length] at this
    have habI:(a.length:Int)=b.length:=by omega
    have hl2:decide ((a.length:Int)<a.length)=false:=by simp
    clear hlt HT hk hkb
    rw [habI] at *
    go_wp2
    all_goals
     go_ret
     exact ⟨⟨0,rfl,by constructor <;> intro _ <;> first | exact HEQ.out | rfl⟩,HB.out⟩
   ·have HN:Hid (¬ a=b):=fun e=>hab (by rw [e])
    have habI:((a.length:Int) == b.length)=false:=by rw [beq_eq_false_iff_ne];omega
    by_cases hka:k<a.length
    ·have hkE:k=b.length:=by omega
     subst hkE
     have h1:(b.length:Int)<a.length:=by omega
     go_wp2_with (go_at_call 119;refine (vrby_any _ _).mono ?_;rintro e w' ⟨⟨r,rfl,hr⟩,rfl⟩)
     go_ret
     exact ⟨⟨r,rfl,by constructor <;> intro h <;> first | exact absurd h hr | exact absurd h HN.out⟩,HB.out⟩
    ·have hkE:k=a.length:=by omega
     subst hkE
     go_wp2_with (go_at_call 119;refine (vrby_any _ _).mono ?_;rintro e w' ⟨⟨r,rfl,hr⟩,rfl⟩)
     go_ret
     exact ⟨⟨r,rfl,by constructor <;> intro h <;> first | exact absurd h hr | exact absurd h HN.out⟩,HB.out⟩
theorem vrSame_any (va vb:Value) (a b:List Val) (w:World) (ha:ValsAt w va a) (hb:ValsAt w vb b):Calls Tryz.prog 42 #[va,vb] w fun e w'=>e = .returned (.bool (decide (a=b)))∧Bel w w':=by
 have HL:=Lib.hid (vrLists_any va vb a b w ha hb)
 obtain ⟨Aa,ca,rfl,-⟩:=ha
 obtain ⟨Ab,cb,rfl,-⟩:=hb
 obtain ⟨R,hR⟩ : ∃ R,R=decide (a=b):=⟨_,rfl⟩
 rw [← hR]
 have HR:=Lib.hid hR
 clear hR
 go_enter Tryz.func42,Tryz.ntmps42
 go_wp2_with fail
 refine HL.out.mono ?_
 rintro e w' ⟨⟨r,rfl,hr⟩,hb⟩
 have HB:=Lib.hid hb
 have HRR:Hid (R=(r == 0)):=by show _=_;rw [HR.out];by_cases h:a=b <;> simp [h,hr]
 clear hr hb HL
 go_wp2
 go_ret
 exact ⟨by rw [HRR.out];rfl,HB.out⟩
end
section
open Go.RowKit Go.Shelf Go.Lib
attribute [local go_sem] Oper.semAt_some
set_option maxRecDepth 100000 in
set_option maxHeartbeats 8000000 in
theorem tSame_any (va vka vua vb vkb vub:Value) (a b:List Col) (ka kb:List Int) (ua ub:List (List Int)) (w:World) (ha:ColsAt w va a) (hka:IntsAt w vka ka) (hua:ListsAt w vua ua) (hb:ColsAt w vb b) (hkb:IntsAt w vkb kb) (hub:ListsAt w vub ub) :
  Calls Tryz.prog 41 #[.agg #[va,vka,vua],.agg #[vb,vkb,vub]] w fun e w'=>e = .returned (.bool (sameS a b ka kb ua ub))∧Bel w w':=by
 obtain ⟨R,hR⟩ : ∃ R,R=sameS a b ka kb ua ub:=⟨_,rfl⟩
 rw [← hR]
 have HR:=Lib.hid hR
 clear hR
 have HK:=Lib.hid (fun V (h:Bel w V)=>tInts3_any vka vkb ka kb V (hka.bel h) (hkb.bel h))
 clear hka hkb
 obtain ⟨Aa,ca,rfl,hca,hma,hra⟩:=ha
 obtain ⟨Ab,cb,rfl,hcb,hmb,hrb⟩:=hb
 obtain ⟨Au,cu,rfl,hcu,hmu,hru⟩:=hua
 obtain ⟨Av,cv,rfl,hcv,hmv,hrv⟩:=hub
 have haI:(a.length:Int)≤9223372036854775807:=by unfold maxLen at hma;omega
 have hbI:(b.length:Int)≤9223372036854775807:=by unfold maxLen at hmb;omega
 have huI:(ua.length:Int)≤9223372036854775807:=by unfold maxLen at hmu;omega
 have hvI:(ub.length:Int)≤9223372036854775807:=by unfold maxLen at hmv;omega
 have HRA:=Lib.hid hra
 have HRB:=Lib.hid hrb
 have HRU:=Lib.hid hru
 have HRV:=Lib.hid hrv
 clear hra hrb hru hrv hma hmb hmu hmv hca hcb hcu hcv
 have hb0:Bel w ((w.alloc (.cells #[.slice Aa a.length ca,vka,.slice Au ua.length cu] 27)).alloc (.cells #[.slice Ab b.length cb,vkb,.slice Av ub.length cv] 27)):=((Bel.refl w).alloc _).alloc _
 have HCL:Hid (∀ V,Bel ((w.alloc (.cells #[.slice Aa a.length ca,vka,.slice Au ua.length cu] 27)).alloc (.cells #[.slice Ab b.length cb,vkb,.slice Av ub.length cv] 27)) V→V.cell? ⟨w.heap.size,0,none⟩=some (.slice Aa a.length ca)∧V.cell? ⟨w.heap.size,2,none⟩=some (.slice Au ua.length cu)∧V.cell? ⟨w.heap.size+1,0,none⟩=some (.slice Ab b.length cb)∧V.cell? ⟨w.heap.size+1,2,none⟩=some (.slice Av ub.length cv)) :=
  fun V h=>⟨h.c (by go_simp),h.c (by go_simp),h.c (by go_simp),h.c (by go_simp)⟩
 by_cases n1:a.length=b.length
 case neg =>
  have hf:R=false:=by rw [HR.out];unfold sameS;rw [decide_eq_false (fun e=>n1 (by rw [e]))];rfl
  have n1b:((a.length:Int) != b.length)=true:=by rw [bne_iff_ne];omega
  go_enter Tryz.func41,Tryz.ntmps41
  go_wp2_with fail
  go_ret
  exact ⟨by first | rfl | (rw [hf];rfl),hb0⟩
 have n1b:((a.length:Int) != b.length)=false:=by rw [bne_eq_false_iff_eq];omega
 have N1:=Lib.hid n1
 clear n1
 by_cases n2:ua.length=ub.length
 case neg =>
  have hf:R=false:=by rw [HR.out];unfold sameS;rw [decide_eq_false (p:=ua=ub) (fun e=>n2 (by rw [e]))];simp
  have n2b:((ua.length:Int) != ub.length)=true:=by rw [bne_iff_ne];omega
  go_enter Tryz.func41,Tryz.ntmps41
  go_wp2_with fail
  go_ret
  exact ⟨by first | rfl | (rw [hf];rfl),hb0⟩
 have n2b:((ua.length:Int) != ub.length)=false:=by rw [bne_eq_false_iff_eq];omega
 have N2:=Lib.hid n2
 clear n2
 by_cases n3:ka=kb
 case neg =>
  have hf:R=false:=by rw [HR.out];unfold sameS;rw [decide_eq_false n3];simp
  rw [decide_eq_false n3] at HK
  clear n3
  go_enter Tryz.func41,Tryz.ntmps41
  go_wp2_with (go_at_call 75;refine (HK.out _ hb0).mono ?_;rintro e w4 ⟨rfl,hb4⟩)
  go_ret
  exact ⟨by first | rfl | (rw [hf];rfl),hb0.then_ hb4⟩
 rw [decide_eq_true n3] at HK
 have HRN:Hid (R=(decide (a=b) && decide (ua=ub))):=by show _=_;rw [HR.out];unfold sameS;rw [decide_eq_true n3,Bool.true_and]
 clear n3 HR
 go_enter Tryz.func41,Tryz.ntmps41
 go_wp2_with (go_at_call 75;refine (HK.out _ hb0).mono ?_;rintro e w4 ⟨rfl,hb4⟩)
 have HB4:=Lib.hid hb4
 have HW4:=Lib.hid (hb0.then_ hb4)
 clear hb4 hb0
 go_loopw [5] (fun i wr=>∃ k:Nat,k≤a.length∧i = .int .i64 k∧Hid (Bel w4 wr)∧Hid (a.take k=b.take k)) (fun i _=>a.length - (intOf i).toNat)
 case atStart=>exact ⟨0,Nat.zero_le _,rfl,Bel.refl w4,by show _=_;simp⟩
 case round =>
  obtain ⟨k,hk,rfl,HB,HT⟩:=hrel
  obtain ⟨l0,l2,m0,m2⟩:=HCL.out _ (HB4.out.then_ HB.out)
  by_cases hlt:k<a.length
  ·obtain ⟨x,hx⟩ : ∃ x,a[k]? = some x:=⟨_,List.getElem?_eq_getElem hlt⟩
   obtain ⟨y,hy⟩ : ∃ y,b[k]? = some y:=⟨_,List.getElem?_eq_getElem (by have:=N1.out;omega)⟩
   obtain ⟨ba,oa,rfl,hai⟩:=HRA.out (by omega)
   obtain ⟨bb,ob,rfl,hbi⟩:=HRB.out (by have:=N1.out;omega)
   have hbw:Bel w wr:=HW4.out.then_ HB.out
   have p0:=hbw.drew.c (hai k x hx).1
   have r0:=hbw.drew.c (hbi k y hy).1
   have p1:=hbw.drew.c (hai k x hx).2.1
   have r1:=hbw.drew.c (hbi k y hy).2.1
   have p2:=hbw.drew.c (hai k x hx).2.2.1
   have r2:=hbw.drew.c (hbi k y hy).2.2.1
   have p3:=hbw.drew.c (hai k x hx).2.2.2
   have r3:=hbw.drew.c (hbi k y hy).2.2.2
   have q0:=(Bel.refl wr).drew.c l0
   have q1:=(Bel.refl wr).drew.c m0
   have hkI:(k:Int)<a.length:=by omega
   have hkJ:(k:Int)<b.length:=by have:=N1.out;omega
   have HNX:Hid (x=y→a.take (k+1)=b.take (k+1)):=fun e=>by rw [List.take_add_one,List.take_add_one,hx,hy,HT.out,e]
   have HNO:Hid (¬ x=y→R=false):=fun e=>by rw [HRN.out,decide_eq_false (fun h=>e (by rw [h,hy] at hx;exact (Option.some.inj hx).symm))];rfl
   have HLT:=Lib.hid hlt
   have HBW:=Lib.hid hbw
   clear hx hy hai hbi hlt hbw l2 m2 HT
   by_cases hxy:x=y
   ·have ht:=Lib.hid (HNX.out hxy)
    subst hxy
    have hne:=fun W=>col_ne x x W
    rw [decide_eq_false (by simp)] at hne
    unfold Col.v at hne
    go_wp2
    clear l0 m0
    refine wp_region_noPanic ?_
    refine wp_region_held_drew (S:=(fun V:World=>V.cell? ⟨w.heap.size,0,none⟩=some (.slice (some ⟨ba,oa,none⟩) a.length ca)∧V.cell? ⟨w.heap.size+1,0,none⟩=some (.slice (some ⟨bb,ob,none⟩) b.length cb)∧V.cell? ⟨ba,oa+k * 4,none⟩=some (.string x.name)∧V.cell? ⟨ba,oa+k * 4+1,none⟩=some (.int .i64 x.t)∧V.cell? ⟨ba,oa+k * 4+2,none⟩=some (.int .i64 x.z)∧V.cell? ⟨ba,oa+k * 4+3,none⟩=some (.bool x.null)∧V.cell? ⟨bb,ob+k * 4,none⟩=some (.string x.name)∧V.cell? ⟨bb,ob+k * 4+1,none⟩=some (.int .i64 x.t)∧V.cell? ⟨bb,ob+k * 4+2,none⟩=some (.int .i64 x.z)∧V.cell? ⟨bb,ob+k * 4+3,none⟩=some (.bool x.null))) (by kernel_rfl) ?_ (fun hHr1_0=>?_)
    ·(try dsimp only);exact ⟨q0,q1,p0,p1,p2,p3,r0,r1,r2,r3⟩
    refine tk 0 ?_
    refine tk 1 ?_
    refine tk 2 ?_
    refine tk 3 ?_
    refine tk 4 ?_
    refine tk 5 ?_
    refine tk 6 ?_
    refine tk 7 ?_
    refine tk 8 ?_
    refine tk 9 ?_
    refine tk 10 ?_
    refine wpAnyH_done (by kernel_rfl) ?_ _
    refine NoPanic.normal ?_
    go_wp2
    go_roundw
    case rel=>exact ⟨k+1,HLT.out,by go_num,HB.out.drew,ht.out⟩
    case measure=>have:=HLT.out;simp [intOf];omega
   ·have hf:=HNO.out hxy
    have hne:=fun W=>col_ne x y W
    rw [decide_eq_true hxy] at hne
    unfold Col.v at hne
    go_wp2
    clear l0 m0
    refine wp_region_noPanic ?_
    refine wp_region_held_drew (S:=(fun V:World=>V.cell? ⟨w.heap.size,0,none⟩=some (.slice (some ⟨ba,oa,none⟩) a.length ca)∧V.cell? ⟨w.heap.size+1,0,none⟩=some (.slice (some ⟨bb,ob,none⟩) b.length cb)∧V.cell? ⟨ba,oa+k * 4,none⟩=some (.string x.name)∧V.cell? ⟨ba,oa+k * 4+1,none⟩=some (.int .i64 x.t)∧V.cell? ⟨ba,oa+k * 4+2,none⟩=some (.int .i64 x.z)∧V.cell? ⟨ba,oa+k * 4+3,none⟩=some (.bool x.null)∧V.cell? ⟨bb,ob+k * 4,none⟩=some (.string y.name)∧V.cell? ⟨bb,ob+k * 4+1,none⟩=some (.int .i64 y.t)∧V.cell? ⟨bb,ob+k * 4+2,none⟩=some (.int .i64 y.z)∧V.cell? ⟨bb,ob+k * 4+3,none⟩=some (.bool y.null))) (by kernel_rfl) ?_ (fun hHr2_0=>?_)
    ·(try dsimp only);exact ⟨q0,q1,p0,p1,p2,p3,r0,r1,r2,r3⟩
    refine tk 0 ?_
    refine tk 1 ?_
    refine tk 2 ?_
    refine tk 3 ?_
    refine tk 4 ?_
    refine tk 5 ?_
    refine tk 6 ?_
    refine tk 7 ?_
    refine tk 8 ?_
    refine tk 9 ?_
    refine tk 10 ?_
    refine wpAnyH_done (by kernel_rfl) ?_ _
    refine NoPanic.normal ?_
    go_wp2
    go_ret
    exact ⟨by first | rfl | (rw [hf];rfl),HBW.out.drew⟩
  ·obtain rfl:k=a.length:=by omega
   have HRM:Hid (R=decide (ua=ub)):=by
    show _=_
    have:=HT.out
    rw [List.take_length,N1.out,List.take_length] at this
    rw [HRN.out,decide_eq_true this,Bool.true_and]
   clear HT hlt hk l0 l2 m0 m2
   obtain ⟨l0,l2,m0,m2⟩:=HCL.out _ (HB4.out.then_ HB.out)
   have HBW:=Lib.hid (HW4.out.then_ HB.out)
   have HB4r:=Lib.hid (HB4.out.then_ HB.out)
   go_wp2
   clear l0 l2 m0 m2
   obtain ⟨wo,rfl⟩ : ∃ wo:World,wo=wr:=⟨_,rfl⟩
   go_loopw [6] (fun i wi=>∃ k:Nat,k≤ua.length∧i = .int .i64 k∧Hid (Bel wo wi)∧Hid (ua.take k=ub.take k)) (fun i _=>ua.length - (intOf i).toNat)
   case atStart=>exact ⟨0,Nat.zero_le _,rfl,Bel.refl wo,by show _=_;simp⟩
   case round =>
    obtain ⟨wi,rfl⟩ : ∃ wi:World,wi=wr:=⟨_,rfl⟩
    obtain ⟨k,hk,rfl,HBI,HT⟩:=hrel
    obtain ⟨l0,l2,m0,m2⟩:=HCL.out _ (HB4r.out.then_ HBI.out)
    by_cases hlt:k<ua.length
    ·obtain ⟨x,hx⟩ : ∃ x,ua[k]? = some x:=⟨_,List.getElem?_eq_getElem hlt⟩
     obtain ⟨y,hy⟩ : ∃ y,ub[k]? = some y:=⟨_,List.getElem?_eq_getElem (by have:=N2.out;omega)⟩
     obtain ⟨bu,ou,rfl,hui⟩:=HRU.out (by omega)
     obtain ⟨bv,ov,rfl,hvi⟩:=HRV.out (by have:=N2.out;omega)
     obtain ⟨u,hu0,hu1⟩:=hui k x hx
     obtain ⟨v,hv0,hv1⟩:=hvi k y hy
     have hbw:Bel w wi:=HBW.out.then_ HBI.out
     have hkI:(k:Int)<ua.length:=by omega
     have hkJ:(k:Int)<ub.length:=by have:=N2.out;omega
     have HNX:Hid (x=y→ua.take (k+1)=ub.take (k+1)):=fun e=>by rw [List.take_add_one,List.take_add_one,hx,hy,HT.out,e]
     have HNO:Hid (¬ x=y→R=false):=fun e=>by rw [HRM.out];exact decide_eq_false (fun h=>e (by rw [h,hy] at hx;exact (Option.some.inj hx).symm))
     have HEQ:=Lib.hid (fun V (h:Bel wi V)=>tInts3_any u v x y V (hu1.bel (hbw.then_ h)) (hv1.bel (hbw.then_ h)))
     have HLT:=Lib.hid hlt
     have hS : ∀ V,Bel wi V→(fun V:World=>Bel wi V∧V.cell? ⟨w.heap.size,2,none⟩=some (.slice (some ⟨bu,ou,none⟩) ua.length cu)∧V.cell? ⟨w.heap.size+1,2,none⟩=some (.slice (some ⟨bv,ov,none⟩) ub.length cv)∧V.cell? ⟨bu,ou+k,none⟩=some u∧V.cell? ⟨bv,ov+k,none⟩=some v) V :=
      fun V h=>⟨h,h.c l2,h.c m2,(hbw.then_ h).c hu0,(hbw.then_ h).c hv0⟩
     have HBX:=Lib.hid hbw
     clear hx hy hui hvi hlt hu0 hu1 hv0 hv1 hbw HT
     by_cases hxy:x=y
     ·have ht:=Lib.hid (HNX.out hxy)
      rw [decide_eq_true hxy] at HEQ
      clear hxy
      go_wp2_with fail
      refine wp_region_noPanic ?_
      refine wp_region_held_drew (S:=(fun V:World=>Bel wi V∧V.cell? ⟨w.heap.size,2,none⟩=some (.slice (some ⟨bu,ou,none⟩) ua.length cu)∧V.cell? ⟨w.heap.size+1,2,none⟩=some (.slice (some ⟨bv,ov,none⟩) ub.length cv)∧V.cell? ⟨bu,ou+k,none⟩=some u∧V.cell? ⟨bv,ov+k,none⟩=some v)) (by kernel_rfl) ?_ (fun hHr3_0=>?_)
      ·(try dsimp only);(first | assumption | exact hS _ (Bel.refl _).drew | exact hS _ (Bel.then_ (And.left (by assumption)) hb5))
      refine tk 0 ?_
      refine tk 1 ?_
      refine tk 2 ?_
      refine tk 3 ?_
      refine tk 4 ?_
      refine tk 5 ?_
      refine tk 6 ?_
      refine tk 7 ?_
      refine tk 8 ?_
      refine tk 9 ?_
      refine rd1 10 (fun K hK=>?_)
      go_simp
      (go_at_call 75;refine (HEQ.out _ (And.left (by assumption))).mono ?_;rintro e w5 ⟨rfl,hb5⟩)
      try (go_wp2_with fail)
      refine hK.out _ _ ?_ (fun hHr3_1=>?_)
      ·(try dsimp only);(first | assumption | exact hS _ (Bel.refl _).drew | exact hS _ (Bel.then_ (And.left (by assumption)) hb5))
      clear hK K hHr3_0
      try simp only [tkp0,tkp1,tkp2,tkp3,tkp4,tkp5,tkp6,tkp7]
      refine tk 11 ?_
      refine wpAnyH_done (by kernel_rfl) ?_ _
      refine NoPanic.normal ?_
      have hfin:=And.left (by assumption)
      go_wp2
      go_roundw
      case rel=>exact ⟨k+1,HLT.out,by go_num,HBI.out.then_ hfin,ht.out⟩
      case measure=>have:=HLT.out;simp [intOf];omega
     ·have hf:=HNO.out hxy
      rw [decide_eq_false hxy] at HEQ
      clear hxy
      go_wp2_with fail
      refine wp_region_noPanic ?_
      refine wp_region_held_drew (S:=(fun V:World=>Bel wi V∧V.cell? ⟨w.heap.size,2,none⟩=some (.slice (some ⟨bu,ou,none⟩) ua.length cu)∧V.cell? ⟨w.heap.size+1,2,none⟩=some (.slice (some ⟨bv,ov,none⟩) ub.length cv)∧V.cell? ⟨bu,ou+k,none⟩=some u∧V.cell? ⟨bv,ov+k,none⟩=some v)) (by kernel_rfl) ?_ (fun hHr4_0=>?_)
      ·(try dsimp only);(first | assumption | exact hS _ (Bel.refl _).drew | exact hS _ (Bel.then_ (And.left (by assumption)) hb5))
      refine tk 0 ?_
      refine tk 1 ?_
      refine tk 2 ?_
      refine tk 3 ?_
      refine tk 4 ?_
      refine tk 5 ?_
      refine tk 6 ?_
      refine tk 7 ?_
      refine tk 8 ?_
      refine tk 9 ?_
      refine rd1 10 (fun K hK=>?_)
      go_simp
      (go_at_call 75;refine (HEQ.out _ (And.left (by assumption))).mono ?_;rintro e w5 ⟨rfl,hb5⟩)
      try (go_wp2_with fail)
      refine hK.out _ _ ?_ (fun hHr4_1=>?_)
      ·(try dsimp only);(first | assumption | exact hS _ (Bel.refl _).drew | exact hS _ (Bel.then_ (And.left (by assumption)) hb5))
      clear hK K hHr4_0
      try simp only [tkp0,tkp1,tkp2,tkp3,tkp4,tkp5,tkp6,tkp7]
      refine tk 11 ?_
      refine wpAnyH_done (by kernel_rfl) ?_ _
      refine NoPanic.normal ?_
      have hfin:=And.left (by assumption)
      go_wp2
      go_ret
      exact ⟨by first | rfl | (rw [hf];rfl),HBX.out.then_ hfin⟩
    ·obtain rfl:k=ua.length:=by omega
     have ht:R=true:=by
      rw [HRM.out]
      have:=HT.out
      rw [List.take_length,N2.out,List.take_length] at this
      exact decide_eq_true this
     clear HT hlt hk l0 m0
     go_wp2
     go_ret
     exact ⟨by first | rfl | (rw [ht];rfl),HBW.out.then_ HBI.out⟩
end
end Go.Proofs.YtnajjhgbombboaaGreatDoor
