/-
  Texts behind the statement: part 57.
-/
import Derived.Test.YtnajjhgbombboaaGreatDoorP51
set_option linter.unusedVariables false
set_option linter.unusedSimpArgs false
namespace Go.Proofs.YtnajjhgbombboaaGreatDoor
section
open Go.RowKit Go.Shelf Go.Lib
attribute [local go_sem] Oper.semAt_some
def pickE (o:Option Ev):Ev×Int:=match o with
 | some x=>(x,0)
 | none=>(evOf 0,180)
theorem givesEv_open {o:Option Ev} {w w':World} {e:Ending} (h:GivesEv o w e w') : ∃ vc vk vu vo vn vs,e = .returned (.tuple #[evV (pickE o).1.k (pickE o).1.t vc vk vu vo vn vs,.int .i64 (pickE o).2])∧EvAt w' vc vk vu vo vn vs (pickE o).1∧Bel w w':=by
 cases o with
 | none=>obtain ⟨rfl,hb⟩:=h;exact ⟨_,_,_,_,_,_,rfl,evnil_at w' 0 ⟨#[]⟩,hb⟩
 | some x=>obtain ⟨vc,vk,vu,vo,vn,vs,rfl,hi,hb⟩:=h;exact ⟨_,_,_,_,_,_,rfl,hi.at_,hb⟩
set_option maxRecDepth 100000 in
set_option maxHeartbeats 8000000 in
theorem l8Reads_any (vb:Value) (s:List UInt8) (w:World) (hg:ErrType w) (hb:BsAt w vb s):Calls Tryz.prog 4 #[vb] w fun en w'=>en = .returned (.bool true)∧Bel w w':=by
 have HW:=Lib.hid (fun V (hV:Bel w V)=>l8works_any V (hg.bel hV))
 have HBS:=Lib.hid hb
 by_cases hs:s.length≤4000
 case neg =>
  obtain ⟨A,c,rfl,-,hm,-⟩:=hb
  have hI:(4000:Int)<s.length:=by omega
  have hJ:(s.length:Int)≤9223372036854775807:=by have:=HBS.out;obtain ⟨_,_,_,h1,h2,-⟩:=this;unfold maxLen at h2;omega
  clear hs hg hm
  go_enter Tryz.func4,Tryz.ntmps4
  go_wp2_with (go_at_call 10;refine (HW.out _ (Bel.refl w)).mono ?_;rintro e9 w9 ⟨rfl,hb9⟩)
  go_ret
  exact ⟨rfl,hb9⟩
 case pos =>
  have HPD:=Lib.hid (edecode_any vb s (by omega) w hg hb)
  have HRD:=Lib.hid (fun V (hV:Bel w V)=>r8Decode_any vb s (by omega) V (hb.bel hV))
  have HSM:=Lib.hid (fun (x:Ev) v1 v2 v3 v4 v5 v6 u1 u2 u3 u4 u5 u6 V (hx:EvAt V v1 v2 v3 v4 v5 v6 x) (hy:EvAt V u1 u2 u3 u4 u5 u6 x)=>r8Same_any x x v1 v2 v3 v4 v5 v6 u1 u2 u3 u4 u5 u6 V hx hy)
  have HEN:=Lib.hid (fun (x:Ev) v1 v2 v3 v4 v5 v6 V (hV:Bel w V) (hw:x.Wf) (hx:EvAt V v1 v2 v3 v4 v5 v6 x)=>eencode_any x v1 v2 v3 v4 v5 v6 V (hg.bel hV) hw hx)
  have H8:dec8 s=pickE (decE s):=dec8_is s
  have HPK:Hid ((pickE (decE s)).2=0→(pickE (decE s)).1.Wf∧encER (pickE (decE s)).1=(s,0)):=Lib.hid (fun h=>by
   cases hd:decE s with
   | none=>rw [hd] at h;exact absurd h (by decide)
   | some x =>
     obtain ⟨h1,h2⟩:=decE_some hd
     exact ⟨decE_wf hd,by show encER x=_;unfold encER;rw [if_pos h1,h2]⟩)
  have HPO:Hid (∀ w' e,GivesEv (decE s) w e w' → ∃ vc vk vu vo vn vs,e = .returned (.tuple #[evV (pickE (decE s)).1.k (pickE (decE s)).1.t vc vk vu vo vn vs,.int .i64 (pickE (decE s)).2])∧EvAt w' vc vk vu vo vn vs (pickE (decE s)).1∧Bel w w'):=Lib.hid (fun w' e h=>givesEv_open h)
  have HI:(s.length:Int)≤4000:=by omega
  have HId:decide ((4000:Int)<s.length)=false:=by simp;omega
  unfold GivesD8 at HRD
  rw [H8] at HRD
  obtain ⟨A,c,rfl,-⟩:=hb
  clear hg hs H8
  generalize pickE (decE s)=R at HRD HPK HPO
  obtain ⟨x,no⟩:=R
  dsimp only at HRD HPK HPO
  go_enter Tryz.func4,Tryz.ntmps4
  go_wp2_with fail
  refine HPD.out.mono ?_
  intro e1 w1 h1
  obtain ⟨vc,vk,vu,vo,vn,vs,rfl,hx,hb1⟩:=HPO.out _ _ h1
  obtain ⟨Ac,cc,Ak,ck,Au,cu,Ao,co,An,cn,As,cs,rfl,rfl,rfl,rfl,rfl,rfl⟩:=hx.opened
  have HB1:=Lib.hid (hb1.alloc (.cells #[.int .i64 x.k,.string x.t,.slice Ac x.c.length cc,.slice Ak x.ky.length ck,.slice Au x.u.length cu,.slice Ao x.o.length co,.slice An x.n.length cn,.slice As x.ns.length cs] 31))
  have HX1:=Lib.hid (hx.bel ((Bel.refl w1).alloc (.cells #[.int .i64 x.k,.string x.t,.slice Ac x.c.length cc,.slice Ak x.ky.length ck,.slice Au x.u.length cu,.slice Ao x.o.length co,.slice An x.n.length cn,.slice As x.ns.length cs] 31)))
  have HBX:=Blk.new w1 31 #[.int .i64 x.k,.string x.t,.slice Ac x.c.length cc,.slice Ak x.ky.length ck,.slice Au x.u.length cu,.slice Ao x.o.length co,.slice An x.n.length cn,.slice As x.ns.length cs]
  have HBX:=Lib.hid HBX
  unfold evV
  clear h1 hx hb1 HPD HPO
  go_wp2_with fail
  refine (HRD.out _ HB1.out).mono ?_
  rintro e2 w2 ⟨ud,uk,uu,uo,un,us,rfl,hy,hb2⟩
  have HX2:=HX1.out.bel hb2
  have hz2:=hy.at_
  obtain ⟨Bc,d1,Bk,d2,Bu,d3,Bo,d4,Bn,d5,Bs,d6,rfl,rfl,rfl,rfl,rfl,rfl⟩:=hz2.opened
  have hK2:=HBX.out.below hb2 HBX.out.lt
  have HB2:=Lib.hid ((HB1.out.then_ hb2).alloc (.cells #[.int .i64 x.k,.string x.t,.slice Bc x.c.length d1,.slice Bk x.ky.length d2,.slice Bu x.u.length d3,.slice Bo x.o.length d4,.slice Bn x.n.length d5,.slice Bs x.ns.length d6] 31))
  have HSX:=HSM.out x _ _ _ _ _ _ _ _ _ _ _ _ (w2.alloc (.cells #[.int .i64 x.k,.string x.t,.slice Bc x.c.length d1,.slice Bk x.ky.length d2,.slice Bu x.u.length d3,.slice Bo x.o.length d4,.slice Bn x.n.length d5,.slice Bs x.ns.length d6] 31)) (HX2.bel ((Bel.refl w2).alloc _)) (hz2.bel ((Bel.refl w2).alloc _))
  rw [show sameE x x=true by rw [sameE_is];simp] at HSX
  unfold evV at HSX
  have HSX:=Lib.hid HSX
  have HXX:=Lib.hid HX2
  have HK2:=Lib.hid hK2
  obtain ⟨q0,q1,q2,q3,q4,q5,q6,q7⟩:=(show w2.cell? ⟨w1.heap.size,0,none⟩=some (.int .i64 x.k)∧w2.cell? ⟨w1.heap.size,1,none⟩=some (.string x.t)∧w2.cell? ⟨w1.heap.size,2,none⟩=some (.slice Ac x.c.length cc)∧w2.cell? ⟨w1.heap.size,3,none⟩=some (.slice Ak x.ky.length ck)∧w2.cell? ⟨w1.heap.size,4,none⟩=some (.slice Au x.u.length cu)∧w2.cell? ⟨w1.heap.size,5,none⟩=some (.slice Ao x.o.length co)∧w2.cell? ⟨w1.heap.size,6,none⟩=some (.slice An x.n.length cn)∧w2.cell? ⟨w1.heap.size,7,none⟩=some (.slice As x.ns.length cs) from ⟨hK2.cell 0,hK2.cell 1,hK2.cell 2,hK2.cell 3,hK2.cell 4,hK2.cell 5,hK2.cell 6,hK2.cell 7⟩)
  have hl2:w1.heap.size<w2.heap.size:=hK2.lt
  unfold evV
  clear hy hb2 hz2 HX2 hK2 HRD HX1 HB1 HSM
  by_cases h0:no=0
  case neg =>
   have hn0:(no != 0)=true:=by rw [bne_iff_ne];exact h0
   clear h0 HPK HEN HXX HK2
   go_wp2_with (first | (go_at_call 16;refine HSX.out.mono ?_;rintro e3 w3 ⟨rfl,hb3⟩;have HB3:=Lib.hid (HB2.out.then_ hb3)) | (go_at_call 13;refine (l8num_any _ _).mono ?_;rintro e w' ⟨rfl,rfl⟩) | (go_at_call 10;refine (HW.out _ HB3.out).mono ?_;rintro e9 w9 ⟨rfl,hb9⟩))
   go_ret
   exact ⟨rfl,HB3.out.then_ hb9⟩
  case pos =>
   subst h0
   obtain ⟨hwf,henc⟩:=HPK.out rfl
   clear HPK
   go_wp2_with (first | (go_at_call 16;refine HSX.out.mono ?_;rintro e3 w3 ⟨rfl,hb3⟩;have HB3:=Lib.hid (HB2.out.then_ hb3);have hK3:=(HK2.out.alloc (.cells #[.int .i64 x.k,.string x.t,.slice Bc x.c.length d1,.slice Bk x.ky.length d2,.slice Bu x.u.length d3,.slice Bo x.o.length d4,.slice Bn x.n.length d5,.slice Bs x.ns.length d6] 31)).below hb3 (HK2.out.alloc (.cells #[.int .i64 x.k,.string x.t,.slice Bc x.c.length d1,.slice Bk x.ky.length d2,.slice Bu x.u.length d3,.slice Bo x.o.length d4,.slice Bn x.n.length d5,.slice Bs x.ns.length d6] 31)).lt;have HX3:=Lib.hid ((HXX.out.bel ((Bel.refl w2).alloc (.cells #[.int .i64 x.k,.string x.t,.slice Bc x.c.length d1,.slice Bk x.ky.length d2,.slice Bu x.u.length d3,.slice Bo x.o.length d4,.slice Bn x.n.length d5,.slice Bs x.ns.length d6] 31))).bel hb3);clear q0 q1 q2 q3 q4 q5 q6 q7;obtain ⟨q0,q1,q2,q3,q4,q5,q6,q7⟩:=(show w3.cell? ⟨w1.heap.size,0,none⟩=some (.int .i64 x.k)∧w3.cell? ⟨w1.heap.size,1,none⟩=some (.string x.t)∧w3.cell? ⟨w1.heap.size,2,none⟩=some (.slice Ac x.c.length cc)∧w3.cell? ⟨w1.heap.size,3,none⟩=some (.slice Ak x.ky.length ck)∧w3.cell? ⟨w1.heap.size,4,none⟩=some (.slice Au x.u.length cu)∧w3.cell? ⟨w1.heap.size,5,none⟩=some (.slice Ao x.o.length co)∧w3.cell? ⟨w1.heap.size,6,none⟩=some (.slice An x.n.length cn)∧w3.cell? ⟨w1.heap.size,7,none⟩=some (.slice As x.ns.length cs) from ⟨hK3.cell 0,hK3.cell 1,hK3.cell 2,hK3.cell 3,hK3.cell 4,hK3.cell 5,hK3.cell 6,hK3.cell 7⟩);clear hK3 hb3) | (go_at_call 13;refine (l8num_any _ _).mono ?_;rintro e w' ⟨rfl,rfl⟩))
   have HE:=HEN.out x _ _ _ _ _ _ w3 HB3.out hwf HX3.out
   rw [henc] at HE
   dsimp only at HE
   unfold evV at HE
   refine HE.mono ?_
   rintro e4 w4 ⟨v4,rfl,hv4,hb4⟩
   obtain ⟨A4,c4,rfl,-⟩:=id hv4
   have HB4:=Lib.hid (HB3.out.then_ hb4)
   have k1:=bs_conv hv4
   have k2:=bs_conv (HBS.out.bel HB4.out)
   clear hv4 hb4 HE HEN henc hwf HX3 HXX HK2
   go_wp2_with (first | (go_at_call 13;refine (l8num_any _ _).mono ?_;rintro e w' ⟨rfl,rfl⟩) | (go_at_call 10;refine (HW.out _ HB4.out).mono ?_;rintro e9 w9 ⟨rfl,hb9⟩))
   go_ret
   exact ⟨rfl,HB4.out.then_ hb9⟩
end
end Go.Proofs.YtnajjhgbombboaaGreatDoor
