/-
  Texts behind the statement: part 59.
-/
import Derived.Test.YtnajjhgbombboaaGreatDoorP39
import Derived.Test.YtnajjhgbombboaaGreatDoorP40
import Derived.Test.YtnajjhgbombboaaGreatDoorP44
import Derived.Test.YtnajjhgbombboaaGreatDoorP45
import Derived.Test.YtnajjhgbombboaaGreatDoorP52
import Derived.Laws.MakeOwn
set_option linter.unusedVariables false
set_option linter.unusedSimpArgs false
namespace Go.Proofs.YtnajjhgbombboaaGreatDoor
section
open Go.RowKit Go.Shelf Go.Lib
attribute [local go_sem] Oper.semAt_some
def ul8:Nat→Q8→List Ev→Option (Q8×List Ev)
 | 0,q,l=>some (q,l)
 | n+1,q,l=>if q.2=true then some (q,l) else if (dec8 (t8 q.1 q.2).2).2=0 then ul8 n (t8 q.1 q.2).1 (l ++ [(dec8 (t8 q.1 q.2).2).1]) else none
def end8 (N:Nat) (o:Option (Q8×List Ev)):List Ev×Int:=match o with
 | none=>([],180)
 | some (q,l)=>if q.2=true ∨ 0<q.1.length ∨ 100<N then ([],180) else (l,0)
def unp8 (s:List UInt8):List Ev×Int:=end8 (n8 s false).2 (ul8 (min (n8 s false).2 101) (n8 s false).1 [])
theorem dec8_no (x:List UInt8) (h:decE x=none):(dec8 x).2=180:=by rw [dec8_is,h]
theorem dec8_yes (x:List UInt8) {e:Ev} (h:decE x=some e):dec8 x=(e,0):=by rw [dec8_is,h]
theorem ul8_rep : ∀ (n:Nat) (r:List UInt8) (l:List Ev),ul8 n (r,false) l=match rep pT n r with
  | some (l',r')=>some ((r',false),l ++ l')
  | none=>none
 | 0,r,l=>by simp [ul8,rep]
 | n+1,r,l=>by
   have ht:t8 r false=match rdText r with
     | none=>(([],true),[])
     | some (x,m)=>((r.drop m,false),x):=by unfold t8;rw [if_neg (by simp)];rfl
   have hu:ul8 (n+1) (r,false) l=if (dec8 (t8 r false).2).2=0 then ul8 n (t8 r false).1 (l ++ [(dec8 (t8 r false).2).1]) else none:=by
    show (if false=true then _ else _)=_
    rw [if_neg (by simp)]
   have hr:rep pT (n+1) r=match pT r with
     | none=>none
     | some (x,r1)=>match rep pT n r1 with
       | none=>none
       | some (l',r2)=>some (x :: l',r2):=by
    rw [rep]
    cases pT r with
    | none=>rfl
    | some q=>obtain ⟨x,r1⟩:=q;dsimp only;cases rep pT n r1 <;> rfl
   rw [hu,hr]
   cases ha:rdText r with
   | none =>
     have h1:pT r=none:=by unfold pT;rw [ha]
     rw [ht,ha,h1]
     dsimp only
     rw [if_neg (by rw [dec8_no [] (by decide +kernel)];decide)]
   | some q =>
     obtain ⟨x,m⟩:=q
     cases hd:decE x with
     | none =>
       have h1:pT r=none:=by unfold pT;rw [ha];dsimp only;rw [hd]
       rw [ht,ha,h1]
       dsimp only
       rw [if_neg (by rw [dec8_no x hd];decide)]
     | some e =>
       have h1:pT r=some (e,r.drop m):=by unfold pT;rw [ha];dsimp only;rw [hd]
       rw [ht,ha,h1]
       dsimp only
       rw [dec8_yes x hd,if_pos rfl,ul8_rep n]
       cases rep pT n (r.drop m) with
       | none=>rfl
       | some q=>obtain ⟨l',r'⟩:=q;simp
theorem unp8_is (s:List UInt8):unp8 s=match unpackE s with
  | some l=>(l,0)
  | none=>([],180):=by
 unfold unp8 unpackE n8 pNum
 rw [if_neg (by simp)]
 cases hr:rdNum s with
 | none=>rfl
 | some q =>
   obtain ⟨n,m⟩:=q
   dsimp only
   by_cases h1:n<1001
   ·rw [if_pos h1]
    dsimp only
    by_cases h2:n<101
    ·rw [if_pos h2,show min n 101=n by omega,ul8_rep]
     dsimp only
     cases rep pT n (s.drop m) with
     | none=>rfl
     | some q =>
       obtain ⟨l,r⟩:=q
       unfold end8
       dsimp only
       cases r with
       | nil=>rw [if_neg (by simp;omega)];simp
       | cons c r=>rw [if_pos (by simp)];simp
    ·rw [if_neg h2]
     cases ul8 (min n 101) (s.drop m,false) [] with
     | none=>rfl
     | some q=>obtain ⟨q,l⟩:=q;unfold end8;dsimp only;rw [if_pos (by omega)]
   ·rw [if_neg h1]
    dsimp only
    rw [if_neg (by omega)]
    rfl
def GivesU8 (s:List UInt8) (w:World) (e:Ending) (w':World):Prop:=∃ v,e = .returned (.tuple #[v,.int .i64 (unp8 s).2])∧EvsIn w.heap.size w' v (unp8 s).1∧Bel w w'
set_option maxRecDepth 100000 in
set_option maxHeartbeats 16000000 in
theorem r8Unpack_any (vb:Value) (s:List UInt8) (hs:s.length≤1000000) (w:World) (hb:BsAt w vb s):Calls Tryz.prog 20 #[vb] w (GivesU8 s w):=by
 have HBS:=Lib.hid hb
 obtain ⟨A,c,rfl,-,-,-⟩:=hb
 obtain ⟨hl0,hk0⟩:=n8_le s false
 obtain ⟨R,hR⟩ : ∃ R,R=unp8 s:=⟨_,rfl⟩
 unfold GivesU8
 rw [← hR]
 unfold unp8 at hR
 have HNUM:=Lib.hid (r8number_any (.slice A s.length c) s false hs w w (Bel.refl w) HBS.out)
 generalize n8 s false=N at hR HNUM hl0 hk0
 obtain ⟨⟨r0,b0⟩,n⟩:=N
 dsimp only at hR HNUM hl0 hk0
 have HR:=Lib.hid hR
 have HL0:=Lib.hid hl0
 have HHS:=Lib.hid hs
 have hnI:(n:Int)≤1000:=by omega
 clear hR hs hl0
 obtain ⟨i0,hi0,hz0,hz1,hz2⟩:=info_parts infoE
 have hp8:Hid ((0:Nat)<8):=Lib.hid (by omega)
 go_enter Tryz.func20,Tryz.ntmps20
 go_wp2_with fail
 refine HNUM.out.mono ?_
 rintro e1 w1 ⟨vB1,rfl,hbs1,hb1⟩
 have HBS1:=Lib.hid hbs1
 obtain ⟨A1,c1,rfl,-⟩:=hbs1
 have HU0:Hid (UD w w1.heap.size (w1.alloc (.cells #[.slice A1 r0.length c1,.bool b0] 97)) (.slice A1 r0.length c1) b0):=Lib.hid ⟨hb1.alloc _,Blk.new w1 _ _,hb1.size⟩
 clear hb1 HNUM
 go_upto_region 2 with fail
 refine wp_name8 ?_
 intro W hW
 rw [← hW] at HU0
 clear hW
 obtain ⟨b4,hb4⟩ : ∃ b,b=w1.heap.size:=⟨_,rfl⟩
 rw [← hb4] at HU0 ⊢
 clear hb4
 obtain ⟨M,hM⟩ : ∃ M,M=min n 101:=⟨_,rfl⟩
 rw [← hM] at HR
 have HM:=Lib.hid hM
 clear hM
 go_wp2
 go_loopw [6,7] (fun v i wr=>∃ (k:Nat) (L:List Ev) (q:Q8) (A':Option Addr) (c':Nat),k≤M∧v = .slice A' k c'∧i = .int .i64 k∧Hid (R=end8 n (ul8 (M - k) q L)∧L.length=k)∧Hid (∃ vB,UD w b4 wr vB q.2∧BsAt w vB q.1∧q.1.length≤s.length)∧Hid (EvsIn (b4+1) wr (.slice A' k c') L)) (fun v i _=>M - (intOf i).toNat)
 case atStart=>exact ⟨0,[],(r0,b0),none,0,Nat.zero_le _,rfl,rfl,⟨HR.out,rfl⟩,⟨_,HU0.out,HBS1.out,HL0.out⟩,evs_none _ _⟩
 case round =>
  obtain ⟨k,L,q,A',c',hk,rfl,rfl,HL,HQ,HO⟩:=hrel
  obtain ⟨⟨r,b⟩,hq⟩ : ∃ q',q=q':=⟨_,rfl⟩
  subst hq
  obtain ⟨vB,hud,hbs,hlq⟩:=HQ.out
  dsimp only at hud hbs hlq
  have hlr:r.length≤1000000:=Nat.le_trans hlq HHS.out
  have HBR:Hid (BsAt w vB r):=Lib.hid hbs
  have HUD:=Lib.hid hud
  have HLN:=Lib.hid hlq
  obtain ⟨AB,cB,rfl,-⟩:=hbs
  obtain ⟨p0,p1,f0,f1,l0⟩:=hud.facts
  clear hlq HQ hud
  by_cases hlt:k<M∧b=false
  ·obtain ⟨hlt,rfl⟩:=hlt
   have hkn:(k:Int)<n:=by have:=HM.out;omega
   have hk101:(k:Int)<101:=by have:=HM.out;omega
   have HNX:Hid (R=end8 n (if (dec8 (t8 r false).2).2=0 then ul8 (M - (k+1)) (t8 r false).1 (L ++ [(dec8 (t8 r false).2).1]) else none)):=by
    have h:=HL.out.1
    rw [show M - k=(M - (k+1))+1 by omega] at h
    unfold ul8 at h
    rw [if_neg (by simp)] at h
    exact Lib.hid h
   have HLL:=Lib.hid HL.out.2
   have HC1:=Lib.hid (r8Text_any (.slice AB r.length cB) r false hlr w wr HUD.out.bel HBR.out)
   have htl:=t8_len r false
   generalize t8 r false=T at HC1 htl HNX
   obtain ⟨⟨r2,b2⟩,y⟩:=T
   dsimp only at HC1 htl HNX
   have HTL:Hid (r2.length≤s.length):=Lib.hid (Nat.le_trans htl.1 HLN.out)
   have hyl:y.length≤1000000:=Nat.le_trans htl.2 hlr
   unfold strV at HC1
   have HD:=Lib.hid (fun V=>r8Decode_any (.slice (some ⟨V.heap.size,0,none⟩) y.length (grownCap V y.length 0 5)) y hyl _ (conv_at y hyl V))
   have hcv:=fun V=>conv_bytes y V
   obtain ⟨⟨x,no⟩,hx⟩ : ∃ d,dec8 y=d:=⟨_,rfl⟩
   unfold GivesD8 at HD
   rw [hx] at HD HNX
   dsimp only at HD HNX
   clear hx htl hyl HL
   go_wp2_with fail
   refine HC1.out.mono ?_
   rintro e2 w2 ⟨vB2,rfl,hbs2,hb2⟩
   have HX2:=Lib.hid (HUD.out.below hb2)
   have HI2:=Lib.hid (HO.out.keep (above_bel (n:=b4+1) hb2))
   have HBS2:=Lib.hid hbs2
   obtain ⟨A2,c2,rfl,-⟩:=hbs2
   clear p0 p1 f0 f1 l0 hb2 HC1
   obtain ⟨p0,p1,f0,f1,l0⟩:=HX2.out.facts
   go_wp2_with fail
   obtain ⟨W3,hW3⟩ : ∃ W,W=(w2.setCell ⟨b4,0,none⟩ (.slice A2 r2.length c2)).setCell ⟨b4,1,none⟩ (.bool b2):=⟨_,rfl⟩
   rw [← hW3]
   have HX3:Hid (UD w b4 W3 (.slice A2 r2.length c2) b2):=Lib.hid (by rw [hW3];exact HX2.out.setR _ _)
   have HI3:=Lib.hid (HI2.out.keep (show Above (b4+1) w2 W3 by rw [hW3];exact above_R (Above.refl (b4+1) w2) (b4:=b4) (by omega) _ _))
   have hby:=bytes_bel y W3
   have hs3:W3.heap.size=w2.heap.size:=by rw [hW3];simp
   have HD3:=HD.out W3
   rw [hs3] at HD3
   clear hW3 hs3 p0 p1 f0 f1 l0 HX2 HI2 HD
   refine HD3.mono ?_
   rintro e3 w3 ⟨vc,vk,vu,vo,vn,vs,rfl,hin,hb3⟩
   have hbz1:b4+1≤(Lib.bytesWorld W3 5 ⟨y.toArray⟩).heap.size:=Nat.le_trans HX3.out.rd.lt hby.size
   have HEX:=Lib.hid (hin.less hbz1)
   obtain ⟨Ac,cc,Ak,ck,Au,cu,Ao,co,An,cn,As,cs,rfl,rfl,rfl,rfl,rfl,rfl⟩:=hin.at_.opened
   have HX4:=Lib.hid ((HX3.out.below hby).below hb3)
   have HI4:=Lib.hid (HI3.out.keep (above_bel (n:=b4+1) (hby.then_ hb3)))
   clear hby hb3 HX3 HI3 hin hbz1 HD3 hcv
   unfold evV
   by_cases hno:no=0
   case neg =>
    have hR0:R=([],180):=by rw [HNX.out,if_neg hno];rfl
    have hnb:(no != 0)=true:=by rw [bne_iff_ne];exact hno
    have HF:=Lib.hid (HX4.out.bel.alloc (.cells #[.int .i64 x.k,.string x.t,.slice Ac x.c.length cc,.slice Ak x.ky.length ck,.slice Au x.u.length cu,.slice Ao x.o.length co,.slice An x.n.length cn,.slice As x.ns.length cs] 31))
    clear hno HNX
    subst hR0
    go_wp2
    go_ret2
    exact ⟨_,rfl,evs_none _ _,HF.out⟩
   case pos =>
    subst hno
    have HNY:Hid (R=end8 n (ul8 (M - (k+1)) (r2,b2) (L ++ [x]))):=by have:=HNX.out;rw [if_pos rfl] at this;exact Lib.hid this
    have hal:=((Bel.refl w3).alloc (.cells #[.int .i64 x.k,.string x.t,.slice Ac x.c.length cc,.slice Ak x.ky.length ck,.slice Au x.u.length cu,.slice Ao x.o.length co,.slice An x.n.length cn,.slice As x.ns.length cs] 31)).alloc (.cells #[.int .i64 x.k,.string x.t,.slice Ac x.c.length cc,.slice Ak x.ky.length ck,.slice Au x.u.length cu,.slice Ao x.o.length co,.slice An x.n.length cn,.slice As x.ns.length cs] 31)
    have H6:=Lib.hid (HX4.out.below hal)
    have HI6:=Lib.hid (HI4.out.keep (above_bel hal))
    have HX6:=Lib.hid (HEX.out.keep (above_bel hal))
    have HRE:Hid (Reads ((w3.alloc (.cells #[.int .i64 x.k,.string x.t,.slice Ac x.c.length cc,.slice Ak x.ky.length ck,.slice Au x.u.length cu,.slice Ao x.o.length co,.slice An x.n.length cn,.slice As x.ns.length cs] 31)).alloc (.cells #[.int .i64 x.k,.string x.t,.slice Ac x.c.length cc,.slice Ak x.ky.length ck,.slice Au x.u.length cu,.slice Ao x.o.length co,.slice An x.n.length cn,.slice As x.ns.length cs] 31)) (w3.heap.size+1+1) 8 (some ⟨w3.heap.size+1,0,none⟩) 1 [.int .i64 x.k,.string x.t,.slice Ac x.c.length cc,.slice Ak x.ky.length ck,.slice Au x.u.length cu,.slice Ao x.o.length co,.slice An x.n.length cn,.slice As x.ns.length cs]):=by
     have hbk:=Blk.new (w3.alloc (.cells #[.int .i64 x.k,.string x.t,.slice Ac x.c.length cc,.slice Ak x.ky.length ck,.slice Au x.u.length cu,.slice Ao x.o.length co,.slice An x.n.length cn,.slice As x.ns.length cs] 31)) 31 #[.int .i64 x.k,.string x.t,.slice Ac x.c.length cc,.slice Ak x.ky.length ck,.slice Au x.u.length cu,.slice Ao x.o.length co,.slice An x.n.length cn,.slice As x.ns.length cs]
     rw [World.size_alloc] at hbk
     refine Lib.hid ⟨rfl,fun _=>⟨_,rfl,Nat.lt_succ_self _,fun j x hx=>?_⟩⟩
     have e:(Addr.add ⟨w3.heap.size+1,0,none⟩ j)=⟨w3.heap.size+1,j,none⟩:=by unfold Addr.add;split <;> simp_all
     rw [e,hbk.cell j,List.getElem?_toArray]
     exact hx
    have hone : ∀ u ∈ ([.int .i64 x.k,.string x.t,.slice Ac x.c.length cc,.slice Ak x.ky.length ck,.slice Au x.u.length cu,.slice Ao x.o.length co,.slice An x.n.length cn,.slice As x.ns.length cs]:List Value),u.oneCell'=true:=fun u hu=>by
     simp at hu
     rcases hu with rfl | rfl | rfl | rfl | rfl | rfl | rfl | rfl <;> rfl
    have h63:k+1≤maxLen:=by have:=HM.out;unfold maxLen;omega
    have hby2:(k+1) * 168≤140737488355328:=by have:=HM.out;omega
    obtain ⟨bb,rows,hbb,hrows,hown⟩:=HI6.out
    have HROWS:=Lib.hid hrows
    rw [HLL.out] at hown
    have HOWN:=Lib.hid (ownsRow_less hown hbb)
    have HS1:Hid (b4+1≤((w3.alloc (.cells #[.int .i64 x.k,.string x.t,.slice Ac x.c.length cc,.slice Ak x.ky.length ck,.slice Au x.u.length cu,.slice Ao x.o.length co,.slice An x.n.length cn,.slice As x.ns.length cs] 31)).alloc (.cells #[.int .i64 x.k,.string x.t,.slice Ac x.c.length cc,.slice Ak x.ky.length ck,.slice Au x.u.length cu,.slice Ao x.o.length co,.slice An x.n.length cn,.slice As x.ns.length cs] 31)).heap.size):=Lib.hid H6.out.rd.lt
    clear hal hrows hown hbb HX4 HI4 HEX HNX
    go_wp2_with (at_builtin;refine wpList_append_any _ rfl (.tmp 44) (.tmp 46) 48 rfl (b4+1) 31 i0 _ 8 168 Tryz.underlying48 hi0 hz0 hz1 hz2 rfl hp8.out (.slice A' k c') k rows.flatten (by rfl) HOWN.out _ (some ⟨w3.heap.size+1,0,none⟩) 1 1 _ (by rfl) HRE.out hone h63 hby2 HS1.out ?_;intro v9 w9 hown9 hg9 hat9;obtain ⟨A9,c9,rfl⟩:=row_any hown9;have hlt9:=fun j e=>(HOWN.out.lt j e).1;have H9:=Lib.hid (H6.out.grown hg9 (fun j e=>hlt9 j e));have HE9:Hid (ERows (b4+1) w9 (rows ++ [([.int .i64 x.k,.string x.t,.slice Ac x.c.length cc,.slice Ak x.ky.length ck,.slice Au x.u.length cu,.slice Ao x.o.length co,.slice An x.n.length cn,.slice As x.ns.length cs]:List Value)]) (L ++ [x])):=Lib.hid ((HROWS.out.map (fun _ _ _ _ _ _ _ h=>h.types HOWN.out hg9)).snoc ⟨_,_,_,_,_,_,rfl,HX6.out.types HOWN.out hg9⟩);have HW9:Hid (w9.ownsRow (b4+1) 31 8 (.slice A9 (k+1) c9) (k+1) (rows ++ [([.int .i64 x.k,.string x.t,.slice Ac x.c.length cc,.slice Ak x.ky.length ck,.slice Au x.u.length cu,.slice Ao x.o.length co,.slice An x.n.length cn,.slice As x.ns.length cs]:List Value)]).flatten):=Lib.hid (by rw [List.flatten_append];simpa using hown9);clear hown9 hg9 hat9 hlt9)
    go_roundw
    case rel=>exact ⟨k+1,_,(r2,b2),A9,c9,by omega,rfl,by go_num,⟨HNY.out,by rw [List.length_append,HLL.out];rfl⟩,⟨_,H9.out,HBS2.out,HTL.out⟩,⟨b4+1,_,Nat.le_refl _,HE9.out,by rw [List.length_append,HLL.out];exact HW9.out⟩⟩
    case measure=>simp [intOf];omega
  ·have HRE:Hid (R=end8 n (some ((r,b),L))):=by
    have h:=HL.out.1
    by_cases hkM:k=M
    ·rw [show M - k=0 by omega] at h
     exact Lib.hid h
    ·have hbt:b=true:=by
      cases b with
      | true=>rfl
      | false=>exact absurd ⟨by omega,rfl⟩ hlt
     rw [show M - k=(M - (k+1))+1 by omega] at h
     unfold ul8 at h
     rw [if_pos hbt] at h
     exact Lib.hid h
   have HF:=Lib.hid HUD.out.bel
   have HEV:=Lib.hid (HO.out.less (show w.heap.size≤b4+1 by have:=HUD.out.le;omega))
   have HL2:=Lib.hid HL.out.2
   have hlrI:(r.length:Int)≤1000000:=by omega
   clear HL HO
   unfold end8 at HRE
   by_cases hkM:k<M
   ·have hbt:b=true:=by
     cases b with
     | true=>rfl
     | false=>exact absurd ⟨hkM,rfl⟩ hlt
    subst hbt
    have hR0:R=([],180):=by have:=HRE.out;simpa using this
    have hkn:(k:Int)<n:=by have:=HM.out;omega
    have hk101:(k:Int)<101:=by have:=HM.out;omega
    clear HRE hlt hkM
    subst hR0
    go_wp2
    go_ret2
    exact ⟨_,rfl,evs_none _ _,HF.out⟩
   ·obtain rfl:k=M:=by omega
    clear hlt hkM hk
    by_cases hn:n≤101
    ·obtain rfl:k=n:=by have:=HM.out;omega
     cases b with
     | true =>
       have hR0:R=([],180):=by have:=HRE.out;simpa using this
       clear HRE
       subst hR0
       go_wp2
       go_ret2
       exact ⟨_,rfl,evs_none _ _,HF.out⟩
     | false =>
       by_cases hr0 : 0<r.length
       ·have hR0:R=([],180):=by rw [HRE.out];exact if_pos (.inr (.inl hr0))
        have hrI:(0:Int)<r.length:=by omega
        have hrd:decide ((0:Int)<r.length)=true:=decide_eq_true hrI
        have hrn:decide (0<r.length)=true:=decide_eq_true hr0
        have hrz : ¬ r.length=0:=by omega
        have hrnil : ¬ r=[]:=fun e=>by rw [e] at hr0;exact absurd hr0 (by simp)
        clear HRE
        subst hR0
        go_wp2
        go_ret2
        exact ⟨_,rfl,evs_none _ _,HF.out⟩
       ·obtain rfl:r=[]:=List.eq_nil_of_length_eq_zero (by omega)
        simp only [List.length_nil] at p0
        by_cases hn2 : 100<k
        ·have hR0:R=([],180):=by rw [HRE.out];exact if_pos (.inr (.inr hn2))
         have hnJ:(100:Int)<k:=by omega
         clear HRE
         subst hR0
         go_wp2
         go_ret2
         exact ⟨_,rfl,evs_none _ _,HF.out⟩
        ·have hR0:R=(L,0):=by rw [HRE.out];exact if_neg (fun h=>by rcases h with h | h | h;cases h;exact absurd h (by simp);exact hn2 h)
         have hnJ : ¬ (100:Int)<k:=by omega
         have hnd:decide ((100:Int)<k)=false:=by simp;omega
         clear HRE
         subst hR0
         go_wp2
         go_ret2
         exact ⟨_,rfl,HEV.out,HF.out⟩
    ·obtain rfl:k=101:=by have:=HM.out;omega
     have hkn:(101:Int)<n:=by omega
     cases b with
     | true =>
       have hR0:R=([],180):=by have:=HRE.out;simpa using this
       clear HRE
       subst hR0
       go_wp2
       go_ret2
       exact ⟨_,rfl,evs_none _ _,HF.out⟩
     | false =>
       by_cases hr0 : 0<r.length
       ·have hR0:R=([],180):=by rw [HRE.out];exact if_pos (.inr (.inl hr0))
        have hrI:(0:Int)<r.length:=by omega
        have hrd:decide ((0:Int)<r.length)=true:=decide_eq_true hrI
        have hrn:decide (0<r.length)=true:=decide_eq_true hr0
        have hrz : ¬ r.length=0:=by omega
        have hrnil : ¬ r=[]:=fun e=>by rw [e] at hr0;exact absurd hr0 (by simp)
        clear HRE
        subst hR0
        go_wp2
        go_ret2
        exact ⟨_,rfl,evs_none _ _,HF.out⟩
       ·obtain rfl:r=[]:=List.eq_nil_of_length_eq_zero (by omega)
        simp only [List.length_nil] at p0
        by_cases hn2 : 100<n
        ·have hR0:R=([],180):=by rw [HRE.out];exact if_pos (.inr (.inr hn2))
         have hnJ:(100:Int)<n:=by omega
         clear HRE
         subst hR0
         go_wp2
         go_ret2
         exact ⟨_,rfl,evs_none _ _,HF.out⟩
        ·exact absurd (show 100<n by omega) hn2
end
section
open Go.RowKit Go.Shelf Go.Lib
attribute [local go_sem] Oper.semAt_some
theorem givesEvs_open {o:Option (List Ev)} {w w':World} {e:Ending} (h:GivesEvs o w e w') : ∃ v,e = .returned (.tuple #[v,.int .i64 (pickL o).2])∧EventsAt w' v (pickL o).1∧Bel w w':=by
 cases o with
 | none=>obtain ⟨rfl,hb⟩:=h;exact ⟨_,rfl,events_nil w',hb⟩
 | some x=>obtain ⟨v,rfl,hi,hb⟩:=h;exact ⟨_,rfl,hi.at_,hb⟩
theorem made_start (w3:World) (k:Nat):MadeAt w3 (w3.alloc (.cells (madeCells #[.int .i64 0,.string ⟨#[]⟩,.slice none 0 0,.slice none 0 0,.slice none 0 0,.slice none 0 0,.slice none 0 0,.slice none 0 0] (k * 8)) 31)) k 0 :=
 ⟨(Bel.refl w3).alloc _,_,Blk.new w3 _ _,size_madeCells _ _,fun j hj=>absurd hj (Nat.not_lt_zero _)⟩
theorem make_events (k:Nat) (hk:k≤1000) (w:World):(Instr.makeSlice 48 (.int .i64 (k:Int)) (.int .i64 (k:Int))).run Tryz.prog w = .ok (.slice (some ⟨w.heap.size,0,none⟩) k k) (w.alloc (.cells (madeCells #[.int .i64 0,.string ⟨#[]⟩,.slice none 0 0,.slice none 0 0,.slice none 0 0,.slice none 0 0,.slice none 0 0,.slice none 0 0] (k * 8)) 31)):=by
 obtain ⟨i,hi,hzz⟩:=Option.map_eq_some_iff.1 infoE
 simp only [Prod.mk.injEq] at hzz
 obtain ⟨hz,hs,hb⟩:=hzz
 have:=run_make (P:=Tryz.prog) w 48 31 i _ Tryz.underlying48 hi hz .i64 .i64 (k:Int) (k:Int) (by omega) (by omega) (by rw [hb];omega) (by omega)
 rw [hs] at this
 exact this
theorem right5:rightE (⟨5,⟨#[116]⟩,[],[],[],[],[],[]⟩:Ev)=true:=by decide +kernel
theorem wf5:Ev.Wf (⟨5,⟨#[116]⟩,[],[],[],[],[],[]⟩:Ev):=fun x hx=>by simp at hx
theorem pack5 (k:Nat):packR (List.replicate k (⟨5,⟨#[116]⟩,[],[],[],[],[],[]⟩:Ev))=if 100<k then ([],3) else (encEs (List.replicate k (⟨5,⟨#[116]⟩,[],[],[],[],[],[]⟩:Ev)),0):=by
 unfold packR
 rw [List.length_replicate,if_pos (show (List.replicate k (⟨5,⟨#[116]⟩,[],[],[],[],[],[]⟩:Ev)).all rightE=true by rw [List.all_eq_true];intro x hx;rw [(List.mem_replicate.1 hx).2];exact right5)]
theorem all5 (k:Nat) : ∀ x ∈ List.replicate k (⟨5,⟨#[116]⟩,[],[],[],[],[],[]⟩:Ev),rightE x=true∧x.Wf:=fun x hx=>by rw [(List.mem_replicate.1 hx).2];exact ⟨right5,wf5⟩
theorem unpack_none0:unpackE []=none:=by decide +kernel
set_option maxRecDepth 100000 in
set_option maxHeartbeats 16000000 in
theorem l8Unpacks_any (vb:Value) (s:List UInt8) (n:Int) (w:World) (hg:ErrType w) (hb:BsAt w vb s):Calls Tryz.prog 6 #[vb,.int .i64 n] w fun en w'=>en = .returned (.bool true)∧Bel w w':=by
 have HW:=Lib.hid (fun V (hV:Bel w V)=>l8works_any V (hg.bel hV))
 have HBS:=Lib.hid hb
 by_cases hs:s.length≤6000
 case neg =>
  obtain ⟨A,c,rfl,-,hm,-⟩:=hb
  have hI:(6000:Int)<s.length:=by omega
  have hJ:(s.length:Int)≤9223372036854775807:=by have:=HBS.out;obtain ⟨_,_,_,h1,h2,-⟩:=this;unfold maxLen at h2;omega
  clear hs hg hm
  go_enter Tryz.func6,Tryz.ntmps6
  go_wp2_with (go_at_call 10;refine (HW.out _ (Bel.refl w)).mono ?_;rintro e9 w9 ⟨rfl,hb9⟩)
  go_ret
  exact ⟨rfl,hb9⟩
 case pos =>
  have HPD:=Lib.hid (eunpack_any vb s (by omega) w hg hb)
  have HRD:=Lib.hid (fun V (hV:Bel w V)=>r8Unpack_any vb s (by omega) V (hb.bel hV))
  have HSM:Hid (∀ (l:List Ev) v u V,EventsAt V v l→EventsAt V u l→Calls Tryz.prog 21 #[v,u] V fun e w'=>e = .returned (.bool true)∧Bel V w'):=fun l v u V hx hy=>by
   have:=r8SameAll_any v u l l V hx hy
   rw [show sameEs l l=true by unfold sameEs;simp] at this
   exact this
  have HPK:=Lib.hid (fun v (l:List Ev) (hw : ∀ x ∈ l,x.Wf) V (hV:Bel w V) (hx:EventsAt V v l)=>epack_any v l V (hg.bel hV) hx hw)
  have HUN:=Lib.hid (fun v (t:List UInt8) (ht:t.length≤1000000) V (hV:Bel w V) (hx:BsAt V v t)=>eunpack_any v t ht V (hg.bel hV) hx)
  have H8:unp8 s=pickL (unpackE s):=unp8_is s
  have HPO:Hid (∀ w' e,GivesEvs (unpackE s) w e w' → ∃ v,e = .returned (.tuple #[v,.int .i64 (pickL (unpackE s)).2])∧EventsAt w' v (pickL (unpackE s)).1∧Bel w w'):=Lib.hid (fun w' e h=>givesEvs_open h)
  have HI:(s.length:Int)≤6000:=by omega
  have HId:decide ((6000:Int)<s.length)=false:=by simp;omega
  unfold GivesU8 at HRD
  rw [H8] at HRD
  obtain ⟨A,c,rfl,-⟩:=hb
  clear hg hs H8
  generalize pickL (unpackE s)=R at HRD HPO
  obtain ⟨L,no⟩:=R
  dsimp only at HRD HPO
  have hn:(n<0 ∨ 110<n) ∨ ∃ k:Nat,k≤110∧n=(k:Int):=by
   by_cases h:n<0 ∨ 110<n
   ·exact .inl h
   ·exact .inr ⟨n.toNat,by omega,by omega⟩
  go_enter Tryz.func6,Tryz.ntmps6
  go_wp2_with fail
  refine HPD.out.mono ?_
  intro e1 w1 h1
  obtain ⟨v1,rfl,hx,hb1⟩:=HPO.out _ _ h1
  obtain ⟨A1,c1,rfl,-⟩:=id hx
  have HB1:=Lib.hid hb1
  have HX1:=Lib.hid hx
  clear h1 hx hb1 HPD HPO
  go_wp2_with fail
  refine (HRD.out _ HB1.out).mono ?_
  rintro e2 w2 ⟨v2,rfl,hy,hb2⟩
  have HX2:=Lib.hid (HX1.out.bel hb2)
  have HY2:=Lib.hid hy.at_
  obtain ⟨A2,c2,rfl,-⟩:=hy.at_
  have HB2:=Lib.hid (HB1.out.then_ hb2)
  clear hy hb2 HRD HX1 HB1
  go_wp2_with fail
  refine (HSM.out L _ _ w2 HX2.out HY2.out).mono ?_
  rintro e3 w3 ⟨rfl,hb3⟩
  have HX3:=Lib.hid (HX2.out.bel hb3)
  have HY3:=Lib.hid (HY2.out.bel hb3)
  have HB3:=Lib.hid (HB2.out.then_ hb3)
  clear hb3 HX2 HY2 HB2
  rcases hn with hn | ⟨k,hk,rfl⟩
  ·rcases hn with hn | hn
   ·have HSX:=Lib.hid (HSM.out L _ _ w3 HX3.out HY3.out)
    clear HX3 HY3
    go_wp2_with (go_at_call 13;refine (l8num_any _ _).mono ?_;rintro e w' ⟨rfl,rfl⟩)
    refine HSX.out.mono ?_
    rintro e4 w4 ⟨rfl,hb4⟩
    have HB4:=Lib.hid (HB3.out.then_ hb4)
    go_wp2_with (first | (go_at_call 13;refine (l8num_any _ _).mono ?_;rintro e w' ⟨rfl,rfl⟩) | (go_at_call 10;refine (HW.out _ HB4.out).mono ?_;rintro e9 w9 ⟨rfl,hb9⟩))
    go_ret
    exact ⟨rfl,HB4.out.then_ hb9⟩
   ·have hn0 : ¬ n<0:=by omega
    have hn1:decide (n<0)=false:=decide_eq_false hn0
    have HSX:=Lib.hid (HSM.out L _ _ w3 HX3.out HY3.out)
    clear HX3 HY3
    go_wp2_with (go_at_call 13;refine (l8num_any _ _).mono ?_;rintro e w' ⟨rfl,rfl⟩)
    refine HSX.out.mono ?_
    rintro e4 w4 ⟨rfl,hb4⟩
    have HB4:=Lib.hid (HB3.out.then_ hb4)
    go_wp2_with (first | (go_at_call 13;refine (l8num_any _ _).mono ?_;rintro e w' ⟨rfl,rfl⟩) | (go_at_call 10;refine (HW.out _ HB4.out).mono ?_;rintro e9 w9 ⟨rfl,hb9⟩))
    go_ret
    exact ⟨rfl,HB4.out.then_ hb9⟩
  ·have hk0 : ¬ (k:Int)<0:=by omega
   have hk1:decide ((k:Int)<0)=false:=decide_eq_false hk0
   have hk2 : ¬ (110:Int)<k:=by omega
   have hk3:decide ((110:Int)<k)=false:=decide_eq_false hk2
   have hmk:=fun V=>make_events k (by omega) V
   clear HX3 HY3
   go_wp2_with (go_at_call 13;refine (l8num_any _ _).mono ?_;rintro e w' ⟨rfl,rfl⟩)
   have HM0:=Lib.hid (made_start w3 k)
   generalize w3.alloc (.cells (madeCells #[.int .i64 0,.string ⟨#[]⟩,.slice none 0 0,.slice none 0 0,.slice none 0 0,.slice none 0 0,.slice none 0 0,.slice none 0 0] (k * 8)) 31)=W4 at HM0 ⊢
   clear hmk
   go_loopw [10] (fun v wr=>∃ i:Nat,i≤k∧v = .int .i64 i∧Hid (MadeAt w3 wr k i)) (fun v _=>k - (intOf v).toNat)
   case atStart=>exact ⟨0,Nat.zero_le _,rfl,HM0.out⟩
   case round =>
    obtain ⟨i,hi,rfl,HM⟩:=hrel
    by_cases hlt:i<k
    ·have hiI:(i:Int)<k:=by omega
     obtain ⟨hcs,hfz,hlz⟩:=HM.out.facts hlt
     obtain ⟨z0,y0⟩:=hcs 0 (by omega)
     obtain ⟨z1,y1⟩:=hcs 1 (by omega)
     obtain ⟨z2,y2⟩:=hcs 2 (by omega)
     obtain ⟨z3,y3⟩:=hcs 3 (by omega)
     obtain ⟨z4,y4⟩:=hcs 4 (by omega)
     obtain ⟨z5,y5⟩:=hcs 5 (by omega)
     obtain ⟨z6,y6⟩:=hcs 6 (by omega)
     obtain ⟨z7,y7⟩:=hcs 7 (by omega)
     have x0:=hfz (i * 8)
     have x1:=hfz (i * 8+1)
     have x2:=hfz (i * 8+2)
     have x3:=hfz (i * 8+3)
     have x4:=hfz (i * 8+4)
     have x5:=hfz (i * 8+5)
     have x6:=hfz (i * 8+6)
     have x7:=hfz (i * 8+7)
     rw [Nat.add_zero] at y0
     have HN:=Lib.hid (HM.out.step hlt)
     clear hcs hfz
     go_wp2
     go_roundw
     case rel=>exact ⟨i+1,by omega,by go_num,HN.out⟩
     case measure=>simp [intOf];omega
    ·obtain rfl:i=k:=by omega
     have hev:=HM.out.events (by omega)
     have HB4:=Lib.hid (HB3.out.then_ HM.out.bel)
     have HEV:=Lib.hid hev
     have HP:=HPK.out _ _ (fun x hx=>(all5 i x hx).2) wr HB4.out hev
     rw [pack5] at HP
     clear hev HM HM0 hlt hi
     by_cases h100 : 100<i
     ·rw [if_pos h100] at HP
      have hiJ:(100:Int)<i:=by omega
      clear h100
      go_wp2_with fail
      refine HP.mono ?_
      rintro e5 w5 ⟨v5,rfl,hv5,hb5⟩
      have HU:=HUN.out _ _ (by simp) w5 (HB4.out.then_ hb5) hv5
      rw [unpack_none0] at HU
      obtain ⟨A5,c5,rfl,-⟩:=hv5
      have HB5:=Lib.hid (HB4.out.then_ hb5)
      clear hb5 HP
      simp only [List.length_nil] at HU
      go_wp2_with fail
      refine HU.mono ?_
      rintro e6 w6 ⟨rfl,hb6⟩
      have HB6:=Lib.hid (HB5.out.then_ hb6)
      clear hb6 HU
      go_wp2_with (first | (go_at_call 13;refine (l8num_any _ _).mono ?_;rintro e w' ⟨rfl,rfl⟩) | (go_at_call 10;refine (HW.out _ HB6.out).mono ?_;rintro e9 w9 ⟨rfl,hb9⟩))
      go_ret
      exact ⟨rfl,HB6.out.then_ hb9⟩
     ·rw [if_neg h100] at HP
      have hiJ : ¬ (100:Int)<i:=by omega
      have hll:=encEs_len (all5 i) (by rw [List.length_replicate];omega)
      rw [List.length_replicate] at hll
      have hun:=unpack_enc (all5 i) (by rw [List.length_replicate];omega)
      generalize encEs (List.replicate i (⟨5,⟨#[116]⟩,[],[],[],[],[],[]⟩:Ev))=t at HP hll hun
      dsimp only at HP
      go_wp2_with fail
      refine HP.mono ?_
      rintro e5 w5 ⟨v5,rfl,hv5,hb5⟩
      have HU:=HUN.out _ t (by omega) w5 (HB4.out.then_ hb5) hv5
      rw [hun] at HU
      obtain ⟨A5,c5,rfl,-⟩:=hv5
      have HB5:=Lib.hid (HB4.out.then_ hb5)
      have HE5:=Lib.hid (HEV.out.bel hb5)
      clear hb5 HP HEV hll hun
      go_wp2_with fail
      refine HU.mono ?_
      rintro e6 w6 ⟨v6,rfl,hv6,hb6⟩
      have HB6:=Lib.hid (HB5.out.then_ hb6)
      have HSX:=HSM.out (List.replicate i (⟨5,⟨#[116]⟩,[],[],[],[],[],[]⟩:Ev)) _ _ w6 hv6.at_ (HE5.out.bel hb6)
      obtain ⟨A6,c6,rfl,-⟩:=hv6.at_
      rw [List.length_replicate] at HSX ⊢
      have HSX:=Lib.hid HSX
      clear hb6 HU HE5 hv6
      go_wp2_with (first | (go_at_call 13;refine (l8num_any _ _).mono ?_;rintro e w' ⟨rfl,rfl⟩) | (go_at_call 21;refine HSX.out.mono ?_;rintro e7 w7 ⟨rfl,hb7⟩;have HB7:=Lib.hid (HB6.out.then_ hb7)) | (go_at_call 10;refine (HW.out _ HB7.out).mono ?_;rintro e9 w9 ⟨rfl,hb9⟩))
      go_ret
      exact ⟨rfl,HB7.out.then_ hb9⟩
end
end Go.Proofs.YtnajjhgbombboaaGreatDoor
