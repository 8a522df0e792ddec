/-
  Texts behind the statement: part 27.
-/
import Derived.Test.YtnajjhgbombboaaGreatDoorP26
import Derived.Defers
import Derived.Recover
set_option linter.unusedVariables false
set_option linter.unusedSimpArgs false
namespace Go.Proofs.YtnajjhgbombboaaGreatDoor
section
open Go.RowKit Go.Shelf Go.Lib
attribute [local go_sem] Oper.semAt_some
theorem flat_snoc {e:Ev} {l:List Nat} {k y:Nat} (h:l[k]? = some y):(l.take (k+1)).flatMap (layP e)=(l.take k).flatMap (layP e) ++ layP e y:=by
 rw [List.take_add_one,h,List.flatMap_append]
 simp
set_option maxRecDepth 100000 in
set_option maxHeartbeats 8000000 in
theorem eencode_any (e:Ev) (vc vk vu vo vn vs:Value) (w:World) (hg:ErrType w) (hw:e.Wf) (h:EvAt w vc vk vu vo vn vs e) :
  Calls Tryz.prog 11 #[evV e.k e.t vc vk vu vo vn vs] w fun en w'=>∃ v,en = .returned (.tuple #[v,.int .i64 (encER e).2])∧BsAt w' v (encER e).1∧Bel w w':=by
 have HK:=Lib.hid (fun V (hV:Bel w V)=>echeck_any e vc vk vu vo vn vs V (hg.bel hV) (h.bel hV))
 obtain ⟨R,hR⟩ : ∃ R,R=rightE e:=⟨_,rfl⟩
 unfold encER
 rw [← hR] at HK ⊢
 cases R with
 | false =>
   simp only [Bool.false_eq_true,if_false] at HK ⊢
   obtain ⟨Ac,cc,Ak,ck,Au,cu,Ao,co,An,cn,As,cs,rfl,rfl,rfl,rfl,rfl,rfl⟩:=h.opened
   clear h hg hw hR
   obtain ⟨k,t,c,ky,u,o,n,ns⟩:=e
   unfold evV at *
   dsimp only at *
   go_enter Tryz.func11,Tryz.ntmps11
   go_wp2_with fail
   refine (HK.out _ ((Bel.refl w).alloc _)).mono ?_
   rintro e1 w1 ⟨rfl,hb1⟩
   have HB:=Lib.hid (((Bel.refl w).alloc (.cells #[.int .i64 k,.string t,.slice Ac c.length cc,.slice Ak ky.length ck,.slice Au u.length cu,.slice Ao o.length co,.slice An n.length cn,.slice As ns.length cs] 31)).then_ hb1)
   clear hb1
   go_wp2
   go_ret2
   exact ⟨_,rfl,⟨none,0,rfl,Nat.le_refl _,Nat.zero_le _,Reads.none_⟩,HB.out⟩
 | true =>
   simp only [if_true] at HK ⊢
   obtain ⟨hk,-,hmay,-⟩:=rightE_parts hR.symm
   have HL:=Lib.hid (fun bo bn y (hy:y ∈ partsOf e.k) V (hV:Bel w V) (hb:Boxes bo bn V)=>elay_any bo bn y (partsOf_le y hy) e vc vk vu vo vn vs V hb (h.bel hV) (List.all_eq_true.1 hmay y hy) hw)
   have HLN:=Lib.hid (fun y (hy:y ∈ partsOf e.k)=>layP_len (List.all_eq_true.1 hmay y hy) hw)
   have HSN:=Lib.hid (fun (j y:Nat) (hj:(partsOf e.k)[j]? = some y)=>flat_snoc (e:=e) hj)
   have hpl:=partsOf_len (k:=e.k)
   have HEN:Hid (encE e=numB e.k.toNat ++ (partsOf e.k).flatMap (layP e)):=Lib.hid rfl
   generalize encE e=EE at HEN ⊢
   have HPO:=Lib.hid (fun y (hy:y ∈ partsOf e.k)=>partsOf_le y hy)
   obtain ⟨LE,hLE⟩ : ∃ LE,LE=layP e:=⟨_,rfl⟩
   rw [← hLE] at HL HLN HSN HEN
   have HPS:Hid (∀ base bo bn V v,SlP base bo bn V v e.k → ∃ g,v = .slice (some ⟨g,0,none⟩) (partsOf e.k).length (partsOf e.k).length∧base≤g∧Blk V g 76 ((partsOf e.k).flatMap (partC bo bn)).toArray):=Lib.hid (fun base bo bn V v h=>h)
   generalize partsOf e.k=PO at HL HLN HSN HEN HPO HPS hpl
   obtain ⟨Ac,cc,Ak,ck,Au,cu,Ao,co,An,cn,As,cs,rfl,rfl,rfl,rfl,rfl,rfl⟩:=h.opened
   clear h hg hR hmay hw hLE
   obtain ⟨k,t,c,ky,u,o,n,ns⟩:=e
   unfold evV at *
   dsimp only at *
   obtain ⟨kn,rfl⟩:=Int.eq_ofNat_of_zero_le (show 0≤k by omega)
   have hkn:kn≤6:=by omega
   rw [Int.toNat_natCast] at HEN
   have HNU:=Lib.hid (fun V=>oNumberE_any kn (by omega) V)
   have h9:=numB_9 (n:=kn) (by omega)
   have hcv:IntKind.u64.wrap (kn:Int)=(kn:Int):=by simp only [IntKind.wrap,IntKind.bits,IntKind.signed];simp;omega
   obtain ⟨WE,hWE⟩ : ∃ W,W=w.alloc (.cells #[.int .i64 (kn:Int),.string t,.slice Ac c.length cc,.slice Ak ky.length ck,.slice Au u.length cu,.slice Ao o.length co,.slice An n.length cn,.slice As ns.length cs] 31):=⟨_,rfl⟩
   have HBX:Hid (Blk WE w.heap.size 31 #[.int .i64 (kn:Int),.string t,.slice Ac c.length cc,.slice Ak ky.length ck,.slice Au u.length cu,.slice Ao o.length co,.slice An n.length cn,.slice As ns.length cs]):=Lib.hid (by rw [hWE];exact Blk.new w _ _)
   have HBE:Hid (Bel w WE):=Lib.hid (by rw [hWE];exact (Bel.refl w).alloc _)
   have HCX:Hid (∀ V,Bel WE V→(V.cell? ⟨w.heap.size,0,none⟩=some (.int .i64 (kn:Int))∧V.cell? ⟨w.heap.size,1,none⟩=some (.string t)∧V.cell? ⟨w.heap.size,2,none⟩=some (.slice Ac c.length cc)∧V.cell? ⟨w.heap.size,3,none⟩=some (.slice Ak ky.length ck)∧V.cell? ⟨w.heap.size,4,none⟩=some (.slice Au u.length cu)∧V.cell? ⟨w.heap.size,5,none⟩=some (.slice Ao o.length co)∧V.cell? ⟨w.heap.size,6,none⟩=some (.slice An n.length cn)∧V.cell? ⟨w.heap.size,7,none⟩=some (.slice As ns.length cs))) :=
    Lib.hid (fun V hV=>by have h:=HBX.out.below hV HBX.out.lt;exact ⟨h.cell 0,h.cell 1,h.cell 2,h.cell 3,h.cell 4,h.cell 5,h.cell 6,h.cell 7⟩)
   go_enter Tryz.func11,Tryz.ntmps11
   go_wp2_with fail
   rw [← hWE]
   clear hWE
   refine (HK.out _ HBE.out).mono ?_
   rintro e1 w1 ⟨rfl,hb1⟩
   have HB1:=Lib.hid hb1
   obtain ⟨x0,x1,x2,x3,x4,x5,x6,x7⟩:=HCX.out w1 hb1
   clear hb1
   go_wp2_with fail
   refine (HNU.out _).mono ?_
   rintro e2 w2 h2
   obtain ⟨A1,m1,c1,rfl,HR1,hb2⟩:=givesB_row HB1.out h2
   have hm1:m1≤9:=Nat.le_trans (Nat.le_of_eq HR1.out.1.symm) h9
   clear h2 hb2 x0 x1 x2 x3 x4 x5 x6 x7
   go_wp2_with fail
   refine wp_region_noPanic ?_
   refine wp_region_held_drew (S:=(fun V:World=>V.cell? ⟨w.heap.size,0,none⟩=some (.int .i64 (kn:Int))∧V.cell? ⟨w.heap.size,1,none⟩=some (.string t)∧V.cell? ⟨w.heap.size,2,none⟩=some (.slice Ac c.length cc)∧V.cell? ⟨w.heap.size,3,none⟩=some (.slice Ak ky.length ck)∧V.cell? ⟨w.heap.size,4,none⟩=some (.slice Au u.length cu)∧V.cell? ⟨w.heap.size,5,none⟩=some (.slice Ao o.length co)∧V.cell? ⟨w.heap.size,6,none⟩=some (.slice An n.length cn)∧V.cell? ⟨w.heap.size,7,none⟩=some (.slice As ns.length cs))) (by kernel_rfl) ?_ (fun hHr1_0=>?_)
   ·(try dsimp only);(first | assumption | exact HCX.out _ (HR1.out.2.2.1.drew) | exact HCX.out _ hB3)
   refine tk 1 ?_
   refine tk 2 ?_
   refine tk 5 ?_
   refine rd1 0 (fun K hK=>?_)
   go_simp
   (go_at_call 27;refine (ekinds_any _).mono ?_;rintro e1 w3 ⟨m,f,bo,bn,rfl,hkd,hbo2,hbn2,hBo,hBn,hb3⟩;have hb3d:=((Bel.refl w2).drew).then_ hb3;have hB3:=HR1.out.2.2.1.then_ hb3d;have HR3:=Lib.hid (HR1.out.bel hb3d);have HBO:Hid (Boxes bo bn w3):=Lib.hid ⟨hBo,hBn⟩;obtain ⟨v,hv⟩:=Option.ne_none_iff_exists'.1 (hkd.2.2 kn hk.1 hk.2);obtain ⟨g,rfl,hg2,hgB⟩:=HPS.out _ _ _ _ _ (hkd.2.1 kn v hv).2;have HGB:=Lib.hid hgB;have HM:Hid (w2.heap.size≤g∧w2.heap.size≤bo∧w2.heap.size≤bn):=Lib.hid (And.intro hg2 (And.intro hbo2 hbn2));have HS23:=Lib.hid hb3d.size;have hlk:=run_lookup_map (P:=Tryz.prog) Tryz.underlying71 Tryz.underlying22 (zeroParts w3) hkd.1 kn;rw [hv] at hlk;simp only [Option.getD_some] at hlk;clear hkd hBo hBn hv hb3 hb3d hgB hg2 hbo2 hbn2)
   try (go_wp2_with fail)
   refine hK.out _ _ ?_ (fun hHr1_1=>?_)
   ·(try dsimp only);(first | assumption | exact HCX.out _ (HR1.out.2.2.1.drew) | exact HCX.out _ hB3)
   clear hK K hHr1_0
   try simp only [tkp0,tkp1,tkp2,tkp3,tkp4,tkp5,tkp6,tkp7]
   refine rd1 3 (fun K hK=>?_)
   go_simp
   refine hK.out _ _ ?_ (fun hHr1_2=>?_)
   ·(try dsimp only);(first | assumption | exact HCX.out _ (HR1.out.2.2.1.drew) | exact HCX.out _ hB3)
   clear hK K hHr1_1
   try simp only [tkp0,tkp1,tkp2,tkp3,tkp4,tkp5,tkp6,tkp7]
   refine tk 4 ?_
   refine wpAnyH_done (by kernel_rfl) ?_ _
   refine NoPanic.normal ?_
   go_wp2
   go_loopw [5,22] (fun v i wr=>∃ (j nn:Nat) (A':Option Addr) (c':Nat),j≤PO.length∧nn≤9+2000 * j∧v = .slice A' nn c'∧i = .int .i64 j∧Hid (Row8 WE w1.heap.size nn (.slice A' nn c') (numB kn ++ (PO.take j).flatMap LE) wr∧w3.heap.size≤wr.heap.size∧Gap w2.heap.size w3.heap.size (.slice A' nn c') ∧ ∀ k,w2.heap.size≤k→k<w3.heap.size→wr.heap[k]? = w3.heap[k]?)) (fun v i _=>PO.length - (intOf i).toNat)
   case atStart=>exact ⟨0,_,_,_,Nat.zero_le _,by omega,rfl,rfl,by have:=HR3.out;show Row8 _ _ _ _ (numB kn ++ []) _;rw [List.append_nil];exact this,Nat.le_refl _,HR1.out.gap _,fun _ _ _=>rfl⟩
   case round =>
    obtain ⟨j,nn,A',c',hj,hnn,rfl,rfl,HR⟩:=hrel
    by_cases hlt:j<PO.length
    ·obtain ⟨y,hy⟩ : ∃ y,PO[j]? = some y:=⟨_,List.getElem?_eq_getElem hlt⟩
     have hym:y ∈ PO:=List.mem_of_getElem? hy
     have hy4:=HPO.out y hym
     have hq:=parts_cell HGB.out hy (partC_form bo bn hy4)
     have hmg:wr.heap[g]? = w3.heap[g]?:=HR.out.2.2.2 g HM.out.1 HGB.out.lt
     have hc0:=(World.cell?_of_block (a:=⟨g,j * 3,none⟩) hmg).trans hq.1
     have hc1:=(World.cell?_of_block (a:=⟨g,j * 3+1,none⟩) hmg).trans hq.2.1
     have hc2:=(World.cell?_of_block (a:=⟨g,j * 3+2,none⟩) hmg).trans hq.2.2
     have HBW:Hid (Boxes bo bn wr):=Lib.hid ⟨(HR.out.2.2.2 bo HM.out.2.1 HBO.out.1.lt).trans HBO.out.1,(HR.out.2.2.2 bn HM.out.2.2 HBO.out.2.lt).trans HBO.out.2⟩
     have hjI:(j:Int)<PO.length:=by omega
     have eg:=layFn_enters hy4
     have HLY:=Lib.hid (fun V (hV:Bel w V) (hb:Boxes bo bn V)=>HL.out bo bn y hym V hV hb)
     have hly:=HLN.out y hym
     have htk:=HSN.out j y hy
     have HTK:=Lib.hid htk
     obtain ⟨x0,x1,x2,x3,x4,x5,x6,x7⟩:=HCX.out wr HR.out.1.2.2.1
     have hwl:w.heap.size<wr.heap.size:=Nat.lt_of_lt_of_le HBX.out.lt HR.out.1.2.2.1.size
     have hgl:g<wr.heap.size:=Nat.lt_of_lt_of_le HGB.out.lt HR.out.2.1
     obtain ⟨LY,hLY⟩ : ∃ LY,LY=LE y:=⟨_,rfl⟩
     rw [← hLY] at HLY hly
     have HLYE:=Lib.hid hLY
     clear hy hym hq htk hLY hmg
     generalize pLb bo bn y=LB at HLY hc0 hc1 hc2
     go_wp2_with (first | (go_at_fn (layFn y);refine (HLY.out _ (HBE.out.then_ (HR.out.1.2.2.1.then_ ((Bel.refl wr).alloc _))) (HBW.out.bel ((Bel.refl wr).alloc _))).mono ?_;rintro e4 w4 h4;obtain ⟨A4,m4,c4,rfl,HS4,hb4⟩:=givesB_src h4;have hm4:m4≤2000:=Nat.le_trans (Nat.le_of_eq HS4.out.1.symm) hly;have hb4w:=((Bel.refl wr).alloc (.cells #[.func (.func (mayFn y)) #[] LB,.func (.func (layFn y)) #[] LB,.func (.func (readFn y)) #[] LB] 76)).then_ hb4;have H4:=Lib.hid (HR.out.1.bel hb4w);have HW4:=Lib.hid (And.intro (show w3.heap.size≤w4.heap.size from Nat.le_trans HR.out.2.1 hb4w.size) (fun k (h1:w2.heap.size≤k) (h2:k<w3.heap.size)=>(hb4w.block k (Nat.lt_of_lt_of_le h2 HR.out.2.1)).trans (HR.out.2.2.2 k h1 h2)));clear h4 hb4 hb4w) | (at_builtin;refine app8g (lo:=w2.heap.size) (hi:=w3.heap.size) rfl (.tmp 26) (.tmp 30) rfl H4.out (by rfl) HS4.out (by rfl) (by omega) HR.out.2.2.1 HW4.out.1 ?_;intro A5 c5 w5 H5 HG5))
     have hs5:w3.heap.size≤w5.heap.size:=by
      have hk1:w3.heap.size - 1<w4.heap.size:=by have:=HW4.out.1;have:=HGB.out.lt;omega
      have h1:=HG5.out.2 (w3.heap.size - 1) (by have:=HM.out.1;have:=HGB.out.lt;omega) (by have:=HGB.out.lt;omega)
      rw [Array.getElem?_eq_getElem hk1] at h1
      have:=(Array.getElem?_eq_some_iff.1 h1).1
      omega
     go_roundw
     case rel=>exact ⟨j+1,_,_,_,by omega,by omega,rfl,by go_num,by rw [HTK.out,← HLYE.out,← List.append_assoc];exact H5.out,hs5,HG5.out.1,fun k h1 h2=>(HG5.out.2 k h1 h2).trans (HW4.out.2 k h1 h2)⟩
     case measure=>simp [intOf];omega
    ·obtain rfl:j=PO.length:=by omega
     have HF:Hid (Row8 WE w1.heap.size nn (.slice A' nn c') EE wr):=by have:=HR.out.1;rw [List.take_length,← HEN.out] at this;exact Lib.hid this
     clear HR
     go_wp2
     go_ret2
     obtain ⟨v,hv,hbs,hbb⟩:=HF.out.gives
     exact ⟨v,by rw [← hv];rfl,hbs,HBE.out.then_ hbb⟩
end
section
open Go.RowKit Go.Shelf Go.Lib
attribute [local go_sem] Oper.semAt_some
theorem wf_mk (k n u:Int) (b:ByteArray) (h1 : -9223372036854775808≤n) (h2:n≤9223372036854775807) (h3 : 0≤u) (h4:u≤18446744073709551615):(⟨k,n,u,b⟩:Val).Wf:=⟨h1,h2,h3,h4⟩
theorem rdKeyV_wf {s:List UInt8} {x:Val} {m:Nat} (h:rdKeyV s=some (x,m)):x.Wf:=by
 cases s with
 | nil=>cases h
 | cons c t =>
   unfold rdKeyV at h
   dsimp only at h
   split at h
   ·cases h;exact wf_mk _ _ _ _ (by decide) (by decide) (by decide) (by decide)
   ·split at h
    ·split at h
     ·cases h
     ·rename_i h8
      have hl:=numN_lt (t.take 8)
      have hl8:(t.take 8).length=8:=by rw [List.length_take];omega
      rw [hl8] at hl
      have hl:numN (t.take 8)<18446744073709551616:=hl
      cases h
      exact wf_mk _ _ _ _ (by unfold sgn63;omega) (by unfold sgn63;omega) (by decide) (by decide)
    ·split at h
     ·cases hr:rdNum t with
      | none=>rw [hr] at h;cases h
      | some q =>
        obtain ⟨n,k⟩:=q
        have h64:=(rdNum_le hr).2.2.2
        have h64:n<18446744073709551616:=h64
        rw [hr] at h
        cases h
        exact wf_mk _ _ _ _ (by decide) (by decide) (by show (0:Int)≤(n:Int);omega) (by show (n:Int)≤_;omega)
     ·split at h
      ·split at h
       ·cases h
       ·split at h
        ·cases h
        ·have:=(t.getD 0 0).toNat_lt
         cases h
         exact wf_mk _ _ _ _ (by omega) (by omega) (by decide) (by decide)
      ·split at h
       ·cases hr:rdG t.length [] t with
        | none=>rw [hr] at h;cases h
        | some q =>
          rw [hr] at h
          cases h
          exact wf_mk _ _ _ _ (by decide) (by decide) (by decide) (by decide)
       ·cases h
theorem rdKeysF_wf : ∀ (f:Nat) (s:List UInt8) (l:List Val),rdKeysF f s=some l → ∀ x ∈ l,x.Wf
 | f,[],l,h=>by
   have h:some []=some l:=by cases f <;> exact h
   cases h
   intro x hx
   cases hx
 | 0,c :: s,l,h=>by cases h
 | f+1,c :: s,l,h=>by
   unfold rdKeysF at h
   cases hr:rdKeyV (c :: s) with
   | none=>rw [hr] at h;cases h
   | some q =>
     obtain ⟨v,m⟩:=q
     rw [hr] at h
     dsimp only at h
     cases hk:rdKeysF f ((c :: s).drop m) with
     | none=>rw [hk] at h;cases h
     | some l' =>
       rw [hk] at h
       cases h
       intro x hx
       rcases List.mem_cons.1 hx with rfl | hx
       ·exact rdKeyV_wf hr
       ·exact rdKeysF_wf f _ l' hk x hx
theorem rdKeys_wf {s:List UInt8} {l:List Val} (h:rdKeys s=some l) : ∀ x ∈ l,x.Wf:=by
 unfold rdKeys at h
 split at h
 ·cases h
 ·exact rdKeysF_wf _ _ _ h
theorem readP_wf {p:Nat} {e e':Ev} {s s':List UInt8} (h:readP p e s=some (e',s')) (hw:e.Wf):e'.Wf:=by
 unfold readP at h
 split at h
 ·cases h1:pNum 5 s with
  | none=>rw [h1] at h;cases h
  | some q =>
    rw [h1] at h
    dsimp only at h
    cases h2:rep pPair q.1 q.2 with
    | none=>rw [h2] at h;cases h
    | some q2=>rw [h2] at h;cases h;exact hw
 ·cases h1:rdText s with
  | none=>rw [h1] at h;cases h
  | some q =>
    obtain ⟨x,m⟩:=q
    rw [h1] at h
    dsimp only at h
    split at h
    ·cases h;exact hw
    ·split at h
     ·cases h2:decS x with
      | none=>rw [h2] at h;cases h
      | some q2=>rw [h2] at h;cases h;exact hw
     ·cases h2:rdKeys x with
      | none=>rw [h2] at h;cases h
      | some l =>
        have hl:=rdKeys_wf h2
        rw [h2] at h
        dsimp only at h
        split at h
        ·cases h
         intro y hy
         rcases List.mem_append.1 hy with hy | hy
         ·exact hl y hy
         ·exact hw y (List.mem_append_right _ hy)
        ·cases h
         intro y hy
         rcases List.mem_append.1 hy with hy | hy
         ·exact hw y (List.mem_append_left _ hy)
         ·exact hl y hy
theorem readP_len {p:Nat} {e e':Ev} {s s':List UInt8} (h:readP p e s=some (e',s')):s'.length≤s.length:=by
 unfold readP at h
 split at h
 ·cases h1:pNum 5 s with
  | none=>rw [h1] at h;cases h
  | some q =>
    have hq:=(pNum_len (n:=q.1) (r:=q.2) h1).1
    rw [h1] at h
    dsimp only at h
    cases h2:rep pPair q.1 q.2 with
    | none=>rw [h2] at h;cases h
    | some q2 =>
      have hq2:=(rep_len (p:=pPair) (fun s x r hp=>by
       unfold pPair at hp
       cases ha:rdText s with
       | none=>rw [ha] at hp;cases hp
       | some qa =>
         rw [ha] at hp
         dsimp only at hp
         cases hb:rdText (s.drop qa.2) with
         | none=>rw [hb] at hp;cases hp
         | some qb =>
           rw [hb] at hp
           cases hp
           simp) (l:=q2.1) (r:=q2.2) h2).1
      rw [h2] at h
      cases h
      omega
 ·cases h1:rdText s with
  | none=>rw [h1] at h;cases h
  | some q =>
    obtain ⟨x,m⟩:=q
    rw [h1] at h
    dsimp only at h
    split at h
    ·cases h;simp
    ·split at h
     ·cases h2:decS x with
      | none=>rw [h2] at h;cases h
      | some q2=>rw [h2] at h;cases h;simp
     ·cases h2:rdKeys x with
      | none=>rw [h2] at h;cases h
      | some l =>
        rw [h2] at h
        dsimp only at h
        split at h <;> (cases h;simp)
theorem readPs_wf : ∀ (l:List Nat) (e e':Ev) (s s':List UInt8),readPs l e s=some (e',s')→e.Wf→e'.Wf
 | [],e,e',s,s',h,hw=>by cases h;exact hw
 | p :: l,e,e',s,s',h,hw=>by
   unfold readPs at h
   cases h1:readP p e s with
   | none=>rw [h1] at h;cases h
   | some q =>
     obtain ⟨e1,s1⟩:=q
     rw [h1] at h
     exact readPs_wf l e1 e' s1 s' h (readP_wf h1 hw)
theorem evOf_wf (k:Int):(evOf k).Wf:=fun x hx=>by simp [evOf] at hx
theorem readPs_snoc : ∀ (l:List Nat) (p:Nat) (e:Ev) (s:List UInt8),readPs (l ++ [p]) e s=match readPs l e s with
  | none=>none
  | some (e',s')=>readP p e' s'
 | [],p,e,s=>by
   show (match readP p e s with | none=>none | some (e',s')=>readPs [] e' s')=_
   cases h:readP p e s with
   | none=>simp [readPs,h]
   | some q=>simp [readPs,h]
 | q :: l,p,e,s=>by
   rw [List.cons_append,readPs]
   cases h:readP q e s with
   | none=>simp [readPs,h]
   | some x=>dsimp only;rw [readPs_snoc l p x.1 x.2];simp [readPs,h]
theorem readPs_bad : ∀ (l k:List Nat) (e:Ev) (s:List UInt8),readPs l e s=none→readPs (l ++ k) e s=none
 | [],k,e,s,h=>by cases h
 | p :: l,k,e,s,h=>by
   rw [List.cons_append]
   unfold readPs at h ⊢
   cases h1:readP p e s with
   | none=>rfl
   | some q=>rw [h1] at h;exact readPs_bad l k _ _ h
theorem ecaught_idle (p c:Value) (w:World):CallsD Tryz.prog 36 #[p,c] .returning w fun e u' w'=>e = .returned (.tuple #[])∧u' = .returning∧w'=w:=by
 have hn:=neq_nil
 refine callsD_of_wpS Tryz.func36 rfl fun c₀ cs hu=>?_
 apply wpS_seq
 apply wpS_region
 simp [wpOpsS,go_sem,recoverD,hu,Tryz.ntmps36,Exit.thenS]
 simp only [Array.replicate,List.replicate,List.setIfInBounds_toArray,List.set_cons_succ,List.set_cons_zero,List.append_toArray,List.cons_append,List.nil_append]
 refine wpS_of_wp ?_
 go_wp2
 cases c₀
 simp_all [bodyPostS,results,Tryz.results36]
def evNone:Array Value:=evCells 0 ⟨#[]⟩ (.slice none 0 0) (.slice none 0 0) (.slice none 0 0) (.slice none 0 0) (.slice none 0 0) (.slice none 0 0)
theorem edecodeC_any (g:Nat) (k:Int) (t:ByteArray) (vc vk vu vo vn vs:Value) (w:World) (hx:Blk w g 31 (evCells k t vc vk vu vo vn vs)) :
  Calls Tryz.prog 37 #[.pointer (some ⟨g,0,none⟩)] w fun e w'=>e = .returned (.tuple #[])∧Blk w' g 31 evNone∧BelS (fun j=>j ≠ g) w w':=by
 have c0:w.cell? ⟨g,0,none⟩=some (.int .i64 k):=hx.cell 0
 have f0:=hx.frozen 0
 have c1:w.cell? ⟨g,1,none⟩=some (.string t):=hx.cell 1
 have f1:=hx.frozen 1
 have c2:w.cell? ⟨g,2,none⟩=some (vc):=hx.cell 2
 have f2:=hx.frozen 2
 have c3:w.cell? ⟨g,3,none⟩=some (vk):=hx.cell 3
 have f3:=hx.frozen 3
 have c4:w.cell? ⟨g,4,none⟩=some (vu):=hx.cell 4
 have f4:=hx.frozen 4
 have c5:w.cell? ⟨g,5,none⟩=some (vo):=hx.cell 5
 have f5:=hx.frozen 5
 have c6:w.cell? ⟨g,6,none⟩=some (vn):=hx.cell 6
 have f6:=hx.frozen 6
 have c7:w.cell? ⟨g,7,none⟩=some (vs):=hx.cell 7
 have f7:=hx.frozen 7
 have HF:Hid ((fun w':World=>Blk w' g 31 evNone∧BelS (fun j=>j ≠ g) w w') ((((((((w.setCell ⟨g,0,none⟩ (.int .i64 0)).setCell ⟨g,1,none⟩ (.string ⟨#[]⟩)).setCell ⟨g,2,none⟩ (.slice none 0 0)).setCell ⟨g,3,none⟩ (.slice none 0 0)).setCell ⟨g,4,none⟩ (.slice none 0 0)).setCell ⟨g,5,none⟩ (.slice none 0 0)).setCell ⟨g,6,none⟩ (.slice none 0 0)).setCell ⟨g,7,none⟩ (.slice none 0 0))):=by
  have hS : ¬ (g ≠ g):=fun h=>h rfl
  have hb1:=((((((((hx.set_ 0 (.int .i64 0)).set_ 1 (.string ⟨#[]⟩)).set_ 2 (.slice none 0 0)).set_ 3 (.slice none 0 0)).set_ 4 (.slice none 0 0)).set_ 5 (.slice none 0 0)).set_ 6 (.slice none 0 0)).set_ 7 (.slice none 0 0))
  simp only [evCells,List.setIfInBounds_toArray,List.set_cons_zero,List.set_cons_succ] at hb1
  exact Lib.hid ⟨hb1,(((((((((BelS.refl (fun j=>j ≠ g) w).setCell (p:=⟨g,0,none⟩) hS (.int .i64 0)).setCell (p:=⟨g,1,none⟩) hS (.string ⟨#[]⟩)).setCell (p:=⟨g,2,none⟩) hS (.slice none 0 0)).setCell (p:=⟨g,3,none⟩) hS (.slice none 0 0)).setCell (p:=⟨g,4,none⟩) hS (.slice none 0 0)).setCell (p:=⟨g,5,none⟩) hS (.slice none 0 0)).setCell (p:=⟨g,6,none⟩) hS (.slice none 0 0)).setCell (p:=⟨g,7,none⟩) hS (.slice none 0 0))⟩
 clear hx
 go_enter Tryz.func37,Tryz.ntmps37
 go_wp2
 go_end0
 exact ⟨rfl,HF.out⟩
theorem ecaught_gave (g h:Nat) (hne:g ≠ h) (k:Int) (t:ByteArray) (vc vk vu vo vn vs:Value) (V:World) (hx:Blk V g 31 (evCells k t vc vk vu vo vn vs)) (he:Blk V h 35 #[.int .i64 0]) :
  CallsD Tryz.prog 36 #[.pointer (some ⟨h,0,none⟩),.func (.func 37) #[] #[.pointer (some ⟨g,0,none⟩)]] (.panicking eGaveUp) V fun e u' w' =>
   e = .returned (.tuple #[])∧u' = .panicking [{ v:=.iface 35 (.int .i64 180),recovered:=true }]∧BelS (fun j=>j ≠ g∧j ≠ h) V w'∧Blk w' g 31 evNone∧Blk w' h 35 #[.int .i64 180]:=by
 have hn:=neq_errno
 have ha:=assert_errno
 have HC:=Lib.hid (edecodeC_any g k t vc vk vu vo vn vs V hx)
 have HE:=Lib.hid he
 clear hx he
 refine callsD_of_wpS Tryz.func36 rfl fun c₀ cs hu=>?_
 unfold eGaveUp at hu
 apply wpS_seq
 apply wpS_region
 simp [wpOpsS,go_sem,recoverD,hu,Tryz.ntmps36,Exit.thenS]
 simp only [Array.replicate,List.replicate,List.setIfInBounds_toArray,List.set_cons_succ,List.set_cons_zero,List.append_toArray,List.cons_append,List.nil_append]
 refine wpS_of_wp ?_
 go_wp2_with fail
 refine HC.out.mono ?_
 rintro e w' ⟨rfl,hx',hbs⟩
 have he':Blk w' h 35 #[.int .i64 0]:=(hbs.block _ (Ne.symm hne) HE.out.lt).trans HE.out
 have c6:w'.cell? ⟨h,0,none⟩=some (.int .i64 0):=he'.cell 0
 have f6:=he'.frozen 0
 have HF:Hid (BelS (fun j=>j ≠ g∧j ≠ h) V (w'.setCell ⟨h,0,none⟩ (.int .i64 180))∧Blk (w'.setCell ⟨h,0,none⟩ (.int .i64 180)) g 31 evNone∧Blk (w'.setCell ⟨h,0,none⟩ (.int .i64 180)) h 35 #[.int .i64 180]):=by
  have hbs2:BelS (fun j=>j ≠ g∧j ≠ h) V w':=⟨hbs.os,hbs.tape,hbs.output,hbs.size,fun k hk hl=>hbs.block k hk.1 hl⟩
  exact Lib.hid ⟨hbs2.setCell (p:=⟨h,0,none⟩) (fun hk=>hk.2 rfl) _,hx'.far (by exact hne) _,he'.set_ 0 _⟩
 clear hx' hbs he'
 go_wp2
 clear HC hn ha HE
 obtain ⟨a1,a2,a3⟩:=HF.out
 simp_all [bodyPostS,results,Tryz.results36]
end
end Go.Proofs.YtnajjhgbombboaaGreatDoor
