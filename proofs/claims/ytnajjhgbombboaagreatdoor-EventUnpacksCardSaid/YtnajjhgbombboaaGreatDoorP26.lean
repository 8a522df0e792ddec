/-
  Texts behind the statement: part 26.
-/
import Derived.Test.YtnajjhgbombboaaGreatDoorP25
set_option linter.unusedVariables false
set_option linter.unusedSimpArgs false
namespace Go.Proofs.YtnajjhgbombboaaGreatDoor
section
open Go.RowKit Go.Shelf Go.Lib
attribute [local go_sem] Oper.semAt_some
theorem echeckC_any (bo bn p bx:Nat) (hp:p≤4) (e:Ev) (vc vk vu vo vn vs:Value) (w:World) (hg:ErrType w) (hb:Boxes bo bn w) (hx:Blk w bx 31 (evCells e.k e.t vc vk vu vo vn vs)) (h:EvAt w vc vk vu vo vn vs e) :
  Calls Tryz.prog 35 (#[pvOf bo bn p] ++ #[.pointer (some ⟨bx,0,none⟩)]) w fun en w'=>en = .returned (.bool (!mayP e p))∧Bel w w':=by
 have HM:=Lib.hid (fun V (hV:Bel w V)=>emay_any bo bn p hp e vc vk vu vo vn vs V (hg.bel hV) (hb.bel hV) (h.bel hV))
 have eg:=mayFn_enters hp
 obtain ⟨R,hR⟩ : ∃ R,R=mayP e p:=⟨_,rfl⟩
 rw [← hR] at HM ⊢
 obtain ⟨Ac,cc,Ak,ck,Au,cu,Ao,co,An,cn,As,cs,rfl,rfl,rfl,rfl,rfl,rfl⟩:=h.opened
 have HX:=Lib.hid hx
 clear h hg hb hR hx
 unfold pvOf
 rw [partC_form bo bn hp]
 generalize pLb bo bn p=LB at HM ⊢
 obtain ⟨k,t,c,ky,u,o,n,ns⟩:=e
 unfold evV at HM
 dsimp only at *
 have hxl:bx<w.heap.size:=HX.out.lt
 have x0:w.cell? ⟨bx,0,none⟩=some (.int .i64 k):=HX.out.cell 0
 have x1:w.cell? ⟨bx,1,none⟩=some (.string t):=HX.out.cell 1
 have x2:w.cell? ⟨bx,2,none⟩=some (.slice Ac c.length cc):=HX.out.cell 2
 have x3:w.cell? ⟨bx,3,none⟩=some (.slice Ak ky.length ck):=HX.out.cell 3
 have x4:w.cell? ⟨bx,4,none⟩=some (.slice Au u.length cu):=HX.out.cell 4
 have x5:w.cell? ⟨bx,5,none⟩=some (.slice Ao o.length co):=HX.out.cell 5
 have x6:w.cell? ⟨bx,6,none⟩=some (.slice An n.length cn):=HX.out.cell 6
 have x7:w.cell? ⟨bx,7,none⟩=some (.slice As ns.length cs):=HX.out.cell 7
 clear hp
 go_enter Tryz.func35,Tryz.ntmps35
 go_wp2_with (go_at_fn (mayFn p);refine (HM.out _ ((Bel.refl w).alloc _)).mono ?_;rintro e1 w1 ⟨rfl,hb1⟩)
 go_ret
 exact ⟨by cases R <;> rfl,((Bel.refl w).alloc _).then_ hb1⟩
theorem partsOf_le {k:Int} : ∀ p ∈ partsOf k,p≤4:=by
 unfold partsOf
 intro p hp
 split at hp
 ·simp at hp;omega
 ·split at hp
  ·simp at hp;omega
  ·split at hp
   ·simp at hp;omega
   ·split at hp
    ·simp at hp;omega
    ·split at hp
     ·simp at hp;omega
     ·split at hp
      ·simp at hp;omega
      ·simp at hp
theorem partsOf_len {k:Int} : (partsOf k).length≤3:=by
 unfold partsOf
 repeat (first | (split) | simp)
theorem SlP.parts {base bo bn:Nat} {w:World} {v:Value} {k:Int} (h:SlP base bo bn w v k):PartsAt bo bn w v (partsOf k):=by
 obtain ⟨g,h1,h2,h3⟩:=h
 exact ⟨g,h1,by have:=partsOf_len (k:=k);unfold maxLen;omega,h3⟩
theorem zeroParts (w:World):(zeroValue 70).run Tryz.prog w = .ok (.slice none 0 0) w:=by kernel_rfl
set_option maxRecDepth 100000 in
set_option maxHeartbeats 8000000 in
theorem echeck_any (e:Ev) (vc vk vu vo vn vs:Value) (w:World) (hg:ErrType w) (h:EvAt w vc vk vu vo vn vs e) :
  Calls Tryz.prog 14 #[evV e.k e.t vc vk vu vo vn vs] w fun en w'=>en = .returned (.int .i64 (if rightE e=true then 0 else 2))∧Bel w w':=by
 have hmf : ∀ (fn:Fn) (first cap:Array Value) (w:World),(Instr.makeFunc fn first cap).run Tryz.prog w = .ok (.func fn first cap) w:=fun _ _ _ _=>rfl
 have HB:=Lib.hid (fun V (hV:Bel w V)=>ebare_any e vc vk vu vo vn vs V (h.bel hV))
 have HS:=Lib.hid (fun V (hV:Bel w V) vc' vk' vu' vo' vn' vs' (h':EvAt V vc' vk' vu' vo' vn' vs' (bareE e))=>eSame_any e (bareE e) vc vk vu vo vn vs vc' vk' vu' vo' vn' vs' V (h.bel hV) h')
 have HF:=Lib.hid (fun bo bn v V (hV:Bel w V) (hX:Blk V w.heap.size 31 (evCells e.k e.t vc vk vu vo vn vs)) (hbx:Boxes bo bn V) (hp:PartsAt bo bn V v (partsOf e.k)) =>
  slContainsFuncPart_any 35 #[.pointer (some ⟨w.heap.size,0,none⟩)] (enters_of Tryz.func35 (by kernel_rfl) rfl) bo bn (fun p=>!mayP e p) v (partsOf e.k) V hp
   (fun W hW p hpm=>echeckC_any bo bn p w.heap.size (partsOf_le p hpm) e vc vk vu vo vn vs W (hg.bel (hV.then_ hW)) (hbx.bel hW) (hX.below hW hX.lt) (h.bel (hV.then_ hW))))
 have hrt:rightE e=(decide (1≤e.k∧e.k≤6) && (sameE e (bareE e) && (!((partsOf e.k).any fun p=>!mayP e p) && lensB e))):=by
  unfold rightE
  rw [sameE_is]
  congr 3
  rw [List.all_eq_not_any_not]
 obtain ⟨R,hR⟩ : ∃ R,R=rightE e:=⟨_,rfl⟩
 rw [← hR]
 rw [← hR] at hrt
 clear hR
 obtain ⟨eb,heb⟩ : ∃ eb,eb=bareE e:=⟨_,rfl⟩
 rw [← heb] at HB HS hrt
 generalize hS0:sameE e eb=S0 at HS hrt
 generalize hA0:((partsOf e.k).any fun p=>!mayP e p)=A0 at HF hrt
 generalize hPO:partsOf e.k=PO at HF
 obtain ⟨Ac,cc,Ak,ck,Au,cu,Ao,co,An,cn,As,cs,rfl,rfl,rfl,rfl,rfl,rfl⟩:=h.opened
 clear h hg heb hS0 hA0
 obtain ⟨k,t,c,ky,u,o,n,ns⟩:=e
 unfold evV at *
 unfold lensB at hrt
 unfold evCells at HF
 dsimp only at *
 have HBX:Hid (Blk (w.alloc (.cells #[.int .i64 k,.string t,.slice Ac c.length cc,.slice Ak ky.length ck,.slice Au u.length cu,.slice Ao o.length co,.slice An n.length cn,.slice As ns.length cs] 31)) w.heap.size 31 #[.int .i64 k,.string t,.slice Ac c.length cc,.slice Ak ky.length ck,.slice Au u.length cu,.slice Ao o.length co,.slice An n.length cn,.slice As ns.length cs]):=Lib.hid (Blk.new w _ _)
 have hal:Bel w (w.alloc (.cells #[.int .i64 k,.string t,.slice Ac c.length cc,.slice Ak ky.length ck,.slice Au u.length cu,.slice Ao o.length co,.slice An n.length cn,.slice As ns.length cs] 31)):=(Bel.refl w).alloc _
 have HCX:Hid (∀ V,Bel (w.alloc (.cells #[.int .i64 k,.string t,.slice Ac c.length cc,.slice Ak ky.length ck,.slice Au u.length cu,.slice Ao o.length co,.slice An n.length cn,.slice As ns.length cs] 31)) V→(V.cell? ⟨w.heap.size,0,none⟩=some (.int .i64 k)∧V.cell? ⟨w.heap.size,1,none⟩=some (.string t)∧V.cell? ⟨w.heap.size,2,none⟩=some (.slice Ac c.length cc)∧V.cell? ⟨w.heap.size,3,none⟩=some (.slice Ak ky.length ck)∧V.cell? ⟨w.heap.size,4,none⟩=some (.slice Au u.length cu)∧V.cell? ⟨w.heap.size,5,none⟩=some (.slice Ao o.length co)∧V.cell? ⟨w.heap.size,6,none⟩=some (.slice An n.length cn)∧V.cell? ⟨w.heap.size,7,none⟩=some (.slice As ns.length cs))) :=
  Lib.hid (fun V hV=>by have h:=HBX.out.below hV HBX.out.lt;exact ⟨h.cell 0,h.cell 1,h.cell 2,h.cell 3,h.cell 4,h.cell 5,h.cell 6,h.cell 7⟩)
 have HAL:=Lib.hid hal
 have HPO:=Lib.hid hPO
 clear hal hPO
 by_cases hk : 1≤k∧k≤6
 ·rw [decide_eq_true hk,Bool.true_and] at hrt
  cases S0 with
  | false =>
    have hf:R=false:=hrt
    subst hf
    clear hrt
    go_enter Tryz.func14,Tryz.ntmps14
    go_wp2_with fail
    refine wp_region_noPanic ?_
    refine wp_region_held_drew (S:=(fun V:World=>V.cell? ⟨w.heap.size,0,none⟩=some (.int .i64 k)∧V.cell? ⟨w.heap.size,1,none⟩=some (.string t)∧V.cell? ⟨w.heap.size,2,none⟩=some (.slice Ac c.length cc)∧V.cell? ⟨w.heap.size,3,none⟩=some (.slice Ak ky.length ck)∧V.cell? ⟨w.heap.size,4,none⟩=some (.slice Au u.length cu)∧V.cell? ⟨w.heap.size,5,none⟩=some (.slice Ao o.length co)∧V.cell? ⟨w.heap.size,6,none⟩=some (.slice An n.length cn)∧V.cell? ⟨w.heap.size,7,none⟩=some (.slice As ns.length cs))) (by kernel_rfl) ?_ (fun hHr1_0=>?_)
    ·(try dsimp only);(first | assumption | exact HCX.out _ (Bel.refl _).drew | exact HCX.out _ hB1 | exact HCX.out _ (hB1.drew) | exact HCX.out _ hB2 | exact HCX.out _ hB3 | exact HCX.out _ hB4)
    refine tk 1 ?_
    refine tk 2 ?_
    refine rd1 0 (fun K hK=>?_)
    go_simp
    (go_at_call 27;refine (ekinds_any _).mono ?_;rintro e1 w1 ⟨m,f,bo,bn,rfl,hkd,-,-,hBo,hBn,hb1⟩;have hB1:=((Bel.refl _).drew).then_ hb1;have HB1:=Lib.hid hB1;have HBO:Hid (Boxes bo bn w1):=Lib.hid ⟨hBo,hBn⟩;obtain ⟨v,hv⟩:=Option.ne_none_iff_exists'.1 (hkd.2.2 k hk.1 hk.2);have HPA:=Lib.hid (hkd.2.1 k v hv).2.parts;rw [HPO.out] at HPA;obtain ⟨g,rfl,-⟩:=id HPA.out;have hlk:=run_lookup_map_ok (P:=Tryz.prog) Tryz.underlying71 Tryz.underlying22 (zeroParts w1) hkd.1 k;rw [hv] at hlk;simp only [Option.getD_some,Option.isSome_some] at hlk;clear hkd hBo hBn hv hb1)
    try (go_wp2_with fail)
    refine hK.out _ _ ?_ (fun hHr1_1=>?_)
    ·(try dsimp only);(first | assumption | exact HCX.out _ (Bel.refl _).drew | exact HCX.out _ hB1 | exact HCX.out _ (hB1.drew) | exact HCX.out _ hB2 | exact HCX.out _ hB3 | exact HCX.out _ hB4)
    clear hK K hHr1_0
    try simp only [tkp0,tkp1,tkp2,tkp3,tkp4,tkp5,tkp6,tkp7]
    refine rd1 3 (fun K hK=>?_)
    go_simp
    refine hK.out _ _ ?_ (fun hHr1_2=>?_)
    ·(try dsimp only);(first | assumption | exact HCX.out _ (Bel.refl _).drew | exact HCX.out _ hB1 | exact HCX.out _ (hB1.drew) | exact HCX.out _ hB2 | exact HCX.out _ hB3 | exact HCX.out _ hB4)
    clear hK K hHr1_1
    try simp only [tkp0,tkp1,tkp2,tkp3,tkp4,tkp5,tkp6,tkp7]
    refine tk 4 ?_
    refine tk 5 ?_
    refine tk 6 ?_
    refine tk 7 ?_
    refine tk 8 ?_
    refine wpAnyH_done (by kernel_rfl) ?_ _
    refine NoPanic.normal ?_
    go_wp2_with fail
    refine wp_region_noPanic ?_
    refine wp_region_held_drew (S:=(fun V:World=>V.cell? ⟨w.heap.size,0,none⟩=some (.int .i64 k)∧V.cell? ⟨w.heap.size,1,none⟩=some (.string t)∧V.cell? ⟨w.heap.size,2,none⟩=some (.slice Ac c.length cc)∧V.cell? ⟨w.heap.size,3,none⟩=some (.slice Ak ky.length ck)∧V.cell? ⟨w.heap.size,4,none⟩=some (.slice Au u.length cu)∧V.cell? ⟨w.heap.size,5,none⟩=some (.slice Ao o.length co)∧V.cell? ⟨w.heap.size,6,none⟩=some (.slice An n.length cn)∧V.cell? ⟨w.heap.size,7,none⟩=some (.slice As ns.length cs))) (by kernel_rfl) ?_ (fun hHr2_0=>?_)
    ·(try dsimp only);(first | assumption | exact HCX.out _ (Bel.refl _).drew | exact HCX.out _ hB1 | exact HCX.out _ (hB1.drew) | exact HCX.out _ hB2 | exact HCX.out _ hB3 | exact HCX.out _ hB4)
    refine tk 0 ?_
    refine tk 1 ?_
    refine tk 2 ?_
    refine tk 3 ?_
    refine tk 4 ?_
    refine rd1 5 (fun K hK=>?_)
    go_simp
    (go_at_call 33;refine (HB.out _ (HAL.out.then_ HB1.out.drew)).mono ?_;rintro e2 w2 ⟨vc2,vk2,vu2,vo2,vn2,vs2,rfl,hat2,hb2⟩;have hB2:=HB1.out.drew.then_ hb2;have HB2:=Lib.hid hB2;have HA2:=Lib.hid (hat2.bel hb2);obtain ⟨Ac2,cc2,Ak2,ck2,Au2,cu2,Ao2,co2,An2,cn2,As2,cs2,rfl,rfl,rfl,rfl,rfl,rfl⟩:=hat2.opened;have HB12:=Lib.hid (((Bel.refl w1).drew).then_ hb2);clear hat2 hb2)
    try (go_wp2_with fail)
    refine hK.out _ _ ?_ (fun hHr2_1=>?_)
    ·(try dsimp only);(first | assumption | exact HCX.out _ (Bel.refl _).drew | exact HCX.out _ hB1 | exact HCX.out _ (hB1.drew) | exact HCX.out _ hB2 | exact HCX.out _ hB3 | exact HCX.out _ hB4)
    clear hK K hHr2_0
    try simp only [tkp0,tkp1,tkp2,tkp3,tkp4,tkp5,tkp6,tkp7]
    refine rd1 6 (fun K hK=>?_)
    go_simp
    (go_at_call 18;refine (HS.out _ (HAL.out.then_ HB2.out) _ _ _ _ _ _ HA2.out).mono ?_;rintro e3 w3 ⟨rfl,hb3⟩;have hB3:=HB2.out.then_ hb3;have HB3:=Lib.hid hB3;have HB13:=Lib.hid (HB12.out.then_ hb3);clear hb3)
    try (go_wp2_with fail)
    refine hK.out _ _ ?_ (fun hHr2_2=>?_)
    ·(try dsimp only);(first | assumption | exact HCX.out _ (Bel.refl _).drew | exact HCX.out _ hB1 | exact HCX.out _ (hB1.drew) | exact HCX.out _ hB2 | exact HCX.out _ hB3 | exact HCX.out _ hB4)
    clear hK K hHr2_1
    try simp only [tkp0,tkp1,tkp2,tkp3,tkp4,tkp5,tkp6,tkp7]
    refine tk 7 ?_
    refine tk 8 ?_
    refine tk 9 ?_
    refine tn 10 ?_
    refine tn 11 ?_
    refine tn 12 ?_
    refine tk 13 ?_
    refine tk 14 ?_
    refine tn 15 ?_
    refine tn 16 ?_
    refine tn 17 ?_
    refine tn 18 ?_
    refine tn 19 ?_
    refine tn 20 ?_
    refine tn 21 ?_
    refine tn 22 ?_
    refine tn 23 ?_
    refine tn 24 ?_
    refine tn 25 ?_
    refine tn 26 ?_
    refine tk 27 ?_
    refine wpAnyH_done (by kernel_rfl) ?_ _
    refine NoPanic.normal ?_
    go_wp2
    go_ret
    exact ⟨rfl,HAL.out.then_ HB3.out⟩
  | true =>
    rw [Bool.true_and] at hrt
    cases A0 with
    | true =>
      have hf:R=false:=hrt
      subst hf
      clear hrt
      go_enter Tryz.func14,Tryz.ntmps14
      go_wp2_with fail
      refine wp_region_noPanic ?_
      refine wp_region_held_drew (S:=(fun V:World=>V.cell? ⟨w.heap.size,0,none⟩=some (.int .i64 k)∧V.cell? ⟨w.heap.size,1,none⟩=some (.string t)∧V.cell? ⟨w.heap.size,2,none⟩=some (.slice Ac c.length cc)∧V.cell? ⟨w.heap.size,3,none⟩=some (.slice Ak ky.length ck)∧V.cell? ⟨w.heap.size,4,none⟩=some (.slice Au u.length cu)∧V.cell? ⟨w.heap.size,5,none⟩=some (.slice Ao o.length co)∧V.cell? ⟨w.heap.size,6,none⟩=some (.slice An n.length cn)∧V.cell? ⟨w.heap.size,7,none⟩=some (.slice As ns.length cs))) (by kernel_rfl) ?_ (fun hHr3_0=>?_)
      ·(try dsimp only);(first | assumption | exact HCX.out _ (Bel.refl _).drew | exact HCX.out _ hB1 | exact HCX.out _ (hB1.drew) | exact HCX.out _ hB2 | exact HCX.out _ hB3 | exact HCX.out _ hB4)
      refine tk 1 ?_
      refine tk 2 ?_
      refine rd1 0 (fun K hK=>?_)
      go_simp
      (go_at_call 27;refine (ekinds_any _).mono ?_;rintro e1 w1 ⟨m,f,bo,bn,rfl,hkd,-,-,hBo,hBn,hb1⟩;have hB1:=((Bel.refl _).drew).then_ hb1;have HB1:=Lib.hid hB1;have HBO:Hid (Boxes bo bn w1):=Lib.hid ⟨hBo,hBn⟩;obtain ⟨v,hv⟩:=Option.ne_none_iff_exists'.1 (hkd.2.2 k hk.1 hk.2);have HPA:=Lib.hid (hkd.2.1 k v hv).2.parts;rw [HPO.out] at HPA;obtain ⟨g,rfl,-⟩:=id HPA.out;have hlk:=run_lookup_map_ok (P:=Tryz.prog) Tryz.underlying71 Tryz.underlying22 (zeroParts w1) hkd.1 k;rw [hv] at hlk;simp only [Option.getD_some,Option.isSome_some] at hlk;clear hkd hBo hBn hv hb1)
      try (go_wp2_with fail)
      refine hK.out _ _ ?_ (fun hHr3_1=>?_)
      ·(try dsimp only);(first | assumption | exact HCX.out _ (Bel.refl _).drew | exact HCX.out _ hB1 | exact HCX.out _ (hB1.drew) | exact HCX.out _ hB2 | exact HCX.out _ hB3 | exact HCX.out _ hB4)
      clear hK K hHr3_0
      try simp only [tkp0,tkp1,tkp2,tkp3,tkp4,tkp5,tkp6,tkp7]
      refine rd1 3 (fun K hK=>?_)
      go_simp
      refine hK.out _ _ ?_ (fun hHr3_2=>?_)
      ·(try dsimp only);(first | assumption | exact HCX.out _ (Bel.refl _).drew | exact HCX.out _ hB1 | exact HCX.out _ (hB1.drew) | exact HCX.out _ hB2 | exact HCX.out _ hB3 | exact HCX.out _ hB4)
      clear hK K hHr3_1
      try simp only [tkp0,tkp1,tkp2,tkp3,tkp4,tkp5,tkp6,tkp7]
      refine tk 4 ?_
      refine tk 5 ?_
      refine tk 6 ?_
      refine tk 7 ?_
      refine tk 8 ?_
      refine wpAnyH_done (by kernel_rfl) ?_ _
      refine NoPanic.normal ?_
      go_wp2_with fail
      refine wp_region_noPanic ?_
      refine wp_region_held_drew (S:=(fun V:World=>V.cell? ⟨w.heap.size,0,none⟩=some (.int .i64 k)∧V.cell? ⟨w.heap.size,1,none⟩=some (.string t)∧V.cell? ⟨w.heap.size,2,none⟩=some (.slice Ac c.length cc)∧V.cell? ⟨w.heap.size,3,none⟩=some (.slice Ak ky.length ck)∧V.cell? ⟨w.heap.size,4,none⟩=some (.slice Au u.length cu)∧V.cell? ⟨w.heap.size,5,none⟩=some (.slice Ao o.length co)∧V.cell? ⟨w.heap.size,6,none⟩=some (.slice An n.length cn)∧V.cell? ⟨w.heap.size,7,none⟩=some (.slice As ns.length cs))) (by kernel_rfl) ?_ (fun hHr4_0=>?_)
      ·(try dsimp only);(first | assumption | exact HCX.out _ (Bel.refl _).drew | exact HCX.out _ hB1 | exact HCX.out _ (hB1.drew) | exact HCX.out _ hB2 | exact HCX.out _ hB3 | exact HCX.out _ hB4)
      refine tk 0 ?_
      refine tk 1 ?_
      refine tk 2 ?_
      refine tk 3 ?_
      refine tk 4 ?_
      refine rd1 5 (fun K hK=>?_)
      go_simp
      (go_at_call 33;refine (HB.out _ (HAL.out.then_ HB1.out.drew)).mono ?_;rintro e2 w2 ⟨vc2,vk2,vu2,vo2,vn2,vs2,rfl,hat2,hb2⟩;have hB2:=HB1.out.drew.then_ hb2;have HB2:=Lib.hid hB2;have HA2:=Lib.hid (hat2.bel hb2);obtain ⟨Ac2,cc2,Ak2,ck2,Au2,cu2,Ao2,co2,An2,cn2,As2,cs2,rfl,rfl,rfl,rfl,rfl,rfl⟩:=hat2.opened;have HB12:=Lib.hid (((Bel.refl w1).drew).then_ hb2);clear hat2 hb2)
      try (go_wp2_with fail)
      refine hK.out _ _ ?_ (fun hHr4_1=>?_)
      ·(try dsimp only);(first | assumption | exact HCX.out _ (Bel.refl _).drew | exact HCX.out _ hB1 | exact HCX.out _ (hB1.drew) | exact HCX.out _ hB2 | exact HCX.out _ hB3 | exact HCX.out _ hB4)
      clear hK K hHr4_0
      try simp only [tkp0,tkp1,tkp2,tkp3,tkp4,tkp5,tkp6,tkp7]
      refine rd1 6 (fun K hK=>?_)
      go_simp
      (go_at_call 18;refine (HS.out _ (HAL.out.then_ HB2.out) _ _ _ _ _ _ HA2.out).mono ?_;rintro e3 w3 ⟨rfl,hb3⟩;have hB3:=HB2.out.then_ hb3;have HB3:=Lib.hid hB3;have HB13:=Lib.hid (HB12.out.then_ hb3);clear hb3)
      try (go_wp2_with fail)
      refine hK.out _ _ ?_ (fun hHr4_2=>?_)
      ·(try dsimp only);(first | assumption | exact HCX.out _ (Bel.refl _).drew | exact HCX.out _ hB1 | exact HCX.out _ (hB1.drew) | exact HCX.out _ hB2 | exact HCX.out _ hB3 | exact HCX.out _ hB4)
      clear hK K hHr4_1
      try simp only [tkp0,tkp1,tkp2,tkp3,tkp4,tkp5,tkp6,tkp7]
      refine tk 7 ?_
      refine tk 8 ?_
      refine tk 9 ?_
      refine tk 10 ?_
      refine tk 11 ?_
      refine rd1 12 (fun K hK=>?_)
      go_simp
      (go_at_call 34;refine (HF.out bo bn _ _ (HAL.out.then_ HB3.out) (HBX.out.below HB3.out HBX.out.lt) (HBO.out.bel HB13.out) (HPA.out.bel HB13.out)).mono ?_;rintro e4 w4 ⟨rfl,hb4⟩;have hB4:=HB3.out.then_ hb4;have HB4:=Lib.hid hB4;clear hb4)
      try (go_wp2_with fail)
      refine hK.out _ _ ?_ (fun hHr4_3=>?_)
      ·(try dsimp only);(first | assumption | exact HCX.out _ (Bel.refl _).drew | exact HCX.out _ hB1 | exact HCX.out _ (hB1.drew) | exact HCX.out _ hB2 | exact HCX.out _ hB3 | exact HCX.out _ hB4)
      clear hK K hHr4_2
      try simp only [tkp0,tkp1,tkp2,tkp3,tkp4,tkp5,tkp6,tkp7]
      refine tk 13 ?_
      refine tk 14 ?_
      refine tn 15 ?_
      refine tn 16 ?_
      refine tn 17 ?_
      refine tn 18 ?_
      refine tn 19 ?_
      refine tn 20 ?_
      refine tn 21 ?_
      refine tn 22 ?_
      refine tn 23 ?_
      refine tn 24 ?_
      refine tn 25 ?_
      refine tn 26 ?_
      refine tk 27 ?_
      refine wpAnyH_done (by kernel_rfl) ?_ _
      refine NoPanic.normal ?_
      go_wp2
      go_ret
      exact ⟨rfl,HAL.out.then_ HB4.out⟩
    | false =>
      rw [Bool.not_false,Bool.true_and] at hrt
      by_cases h2:k=2
      ·by_cases hl:o.length=n.length
       ·have hf:R=true:=by rw [hrt];exact decide_eq_true (fun _=>hl)
        subst hf
        subst h2
        have hlI:((o.length:Int) != n.length)=false:=by rw [bne_eq_false_iff_eq];omega
        clear hrt hl
        go_enter Tryz.func14,Tryz.ntmps14
        go_wp2_with fail
        refine wp_region_noPanic ?_
        refine wp_region_held_drew (S:=(fun V:World=>V.cell? ⟨w.heap.size,0,none⟩=some (.int .i64 2)∧V.cell? ⟨w.heap.size,1,none⟩=some (.string t)∧V.cell? ⟨w.heap.size,2,none⟩=some (.slice Ac c.length cc)∧V.cell? ⟨w.heap.size,3,none⟩=some (.slice Ak ky.length ck)∧V.cell? ⟨w.heap.size,4,none⟩=some (.slice Au u.length cu)∧V.cell? ⟨w.heap.size,5,none⟩=some (.slice Ao o.length co)∧V.cell? ⟨w.heap.size,6,none⟩=some (.slice An n.length cn)∧V.cell? ⟨w.heap.size,7,none⟩=some (.slice As ns.length cs))) (by kernel_rfl) ?_ (fun hHr5_0=>?_)
        ·(try dsimp only);(first | assumption | exact HCX.out _ (Bel.refl _).drew | exact HCX.out _ hB1 | exact HCX.out _ (hB1.drew) | exact HCX.out _ hB2 | exact HCX.out _ hB3 | exact HCX.out _ hB4)
        refine tk 1 ?_
        refine tk 2 ?_
        refine rd1 0 (fun K hK=>?_)
        go_simp
        (go_at_call 27;refine (ekinds_any _).mono ?_;rintro e1 w1 ⟨m,f,bo,bn,rfl,hkd,-,-,hBo,hBn,hb1⟩;have hB1:=((Bel.refl _).drew).then_ hb1;have HB1:=Lib.hid hB1;have HBO:Hid (Boxes bo bn w1):=Lib.hid ⟨hBo,hBn⟩;obtain ⟨v,hv⟩:=Option.ne_none_iff_exists'.1 (hkd.2.2 2 hk.1 hk.2);have HPA:=Lib.hid (hkd.2.1 2 v hv).2.parts;rw [HPO.out] at HPA;obtain ⟨g,rfl,-⟩:=id HPA.out;have hlk:=run_lookup_map_ok (P:=Tryz.prog) Tryz.underlying71 Tryz.underlying22 (zeroParts w1) hkd.1 2;rw [hv] at hlk;simp only [Option.getD_some,Option.isSome_some] at hlk;clear hkd hBo hBn hv hb1)
        try (go_wp2_with fail)
        refine hK.out _ _ ?_ (fun hHr5_1=>?_)
        ·(try dsimp only);(first | assumption | exact HCX.out _ (Bel.refl _).drew | exact HCX.out _ hB1 | exact HCX.out _ (hB1.drew) | exact HCX.out _ hB2 | exact HCX.out _ hB3 | exact HCX.out _ hB4)
        clear hK K hHr5_0
        try simp only [tkp0,tkp1,tkp2,tkp3,tkp4,tkp5,tkp6,tkp7]
        refine rd1 3 (fun K hK=>?_)
        go_simp
        refine hK.out _ _ ?_ (fun hHr5_2=>?_)
        ·(try dsimp only);(first | assumption | exact HCX.out _ (Bel.refl _).drew | exact HCX.out _ hB1 | exact HCX.out _ (hB1.drew) | exact HCX.out _ hB2 | exact HCX.out _ hB3 | exact HCX.out _ hB4)
        clear hK K hHr5_1
        try simp only [tkp0,tkp1,tkp2,tkp3,tkp4,tkp5,tkp6,tkp7]
        refine tk 4 ?_
        refine tk 5 ?_
        refine tk 6 ?_
        refine tk 7 ?_
        refine tk 8 ?_
        refine wpAnyH_done (by kernel_rfl) ?_ _
        refine NoPanic.normal ?_
        go_wp2_with fail
        refine wp_region_noPanic ?_
        refine wp_region_held_drew (S:=(fun V:World=>V.cell? ⟨w.heap.size,0,none⟩=some (.int .i64 2)∧V.cell? ⟨w.heap.size,1,none⟩=some (.string t)∧V.cell? ⟨w.heap.size,2,none⟩=some (.slice Ac c.length cc)∧V.cell? ⟨w.heap.size,3,none⟩=some (.slice Ak ky.length ck)∧V.cell? ⟨w.heap.size,4,none⟩=some (.slice Au u.length cu)∧V.cell? ⟨w.heap.size,5,none⟩=some (.slice Ao o.length co)∧V.cell? ⟨w.heap.size,6,none⟩=some (.slice An n.length cn)∧V.cell? ⟨w.heap.size,7,none⟩=some (.slice As ns.length cs))) (by kernel_rfl) ?_ (fun hHr6_0=>?_)
        ·(try dsimp only);(first | assumption | exact HCX.out _ (Bel.refl _).drew | exact HCX.out _ hB1 | exact HCX.out _ (hB1.drew) | exact HCX.out _ hB2 | exact HCX.out _ hB3 | exact HCX.out _ hB4)
        refine tk 0 ?_
        refine tk 1 ?_
        refine tk 2 ?_
        refine tk 3 ?_
        refine tk 4 ?_
        refine rd1 5 (fun K hK=>?_)
        go_simp
        (go_at_call 33;refine (HB.out _ (HAL.out.then_ HB1.out.drew)).mono ?_;rintro e2 w2 ⟨vc2,vk2,vu2,vo2,vn2,vs2,rfl,hat2,hb2⟩;have hB2:=HB1.out.drew.then_ hb2;have HB2:=Lib.hid hB2;have HA2:=Lib.hid (hat2.bel hb2);obtain ⟨Ac2,cc2,Ak2,ck2,Au2,cu2,Ao2,co2,An2,cn2,As2,cs2,rfl,rfl,rfl,rfl,rfl,rfl⟩:=hat2.opened;have HB12:=Lib.hid (((Bel.refl w1).drew).then_ hb2);clear hat2 hb2)
        try (go_wp2_with fail)
        refine hK.out _ _ ?_ (fun hHr6_1=>?_)
        ·(try dsimp only);(first | assumption | exact HCX.out _ (Bel.refl _).drew | exact HCX.out _ hB1 | exact HCX.out _ (hB1.drew) | exact HCX.out _ hB2 | exact HCX.out _ hB3 | exact HCX.out _ hB4)
        clear hK K hHr6_0
        try simp only [tkp0,tkp1,tkp2,tkp3,tkp4,tkp5,tkp6,tkp7]
        refine rd1 6 (fun K hK=>?_)
        go_simp
        (go_at_call 18;refine (HS.out _ (HAL.out.then_ HB2.out) _ _ _ _ _ _ HA2.out).mono ?_;rintro e3 w3 ⟨rfl,hb3⟩;have hB3:=HB2.out.then_ hb3;have HB3:=Lib.hid hB3;have HB13:=Lib.hid (HB12.out.then_ hb3);clear hb3)
        try (go_wp2_with fail)
        refine hK.out _ _ ?_ (fun hHr6_2=>?_)
        ·(try dsimp only);(first | assumption | exact HCX.out _ (Bel.refl _).drew | exact HCX.out _ hB1 | exact HCX.out _ (hB1.drew) | exact HCX.out _ hB2 | exact HCX.out _ hB3 | exact HCX.out _ hB4)
        clear hK K hHr6_1
        try simp only [tkp0,tkp1,tkp2,tkp3,tkp4,tkp5,tkp6,tkp7]
        refine tk 7 ?_
        refine tk 8 ?_
        refine tk 9 ?_
        refine tk 10 ?_
        refine tk 11 ?_
        refine rd1 12 (fun K hK=>?_)
        go_simp
        (go_at_call 34;refine (HF.out bo bn _ _ (HAL.out.then_ HB3.out) (HBX.out.below HB3.out HBX.out.lt) (HBO.out.bel HB13.out) (HPA.out.bel HB13.out)).mono ?_;rintro e4 w4 ⟨rfl,hb4⟩;have hB4:=HB3.out.then_ hb4;have HB4:=Lib.hid hB4;clear hb4)
        try (go_wp2_with fail)
        refine hK.out _ _ ?_ (fun hHr6_3=>?_)
        ·(try dsimp only);(first | assumption | exact HCX.out _ (Bel.refl _).drew | exact HCX.out _ hB1 | exact HCX.out _ (hB1.drew) | exact HCX.out _ hB2 | exact HCX.out _ hB3 | exact HCX.out _ hB4)
        clear hK K hHr6_2
        try simp only [tkp0,tkp1,tkp2,tkp3,tkp4,tkp5,tkp6,tkp7]
        refine tk 13 ?_
        refine tk 14 ?_
        refine tk 15 ?_
        refine tk 16 ?_
        refine tk 17 ?_
        refine tk 18 ?_
        refine tk 19 ?_
        refine tk 20 ?_
        refine tk 21 ?_
        refine tk 22 ?_
        refine tk 23 ?_
        refine tk 24 ?_
        refine tk 25 ?_
        refine tk 26 ?_
        refine tk 27 ?_
        refine wpAnyH_done (by kernel_rfl) ?_ _
        refine NoPanic.normal ?_
        go_wp2
        go_ret
        exact ⟨rfl,HAL.out.then_ HB4.out⟩
       ·have hf:R=false:=by rw [hrt];exact decide_eq_false (fun h=>hl (h h2))
        subst hf
        subst h2
        have hlI:((o.length:Int) != n.length)=true:=by rw [bne_iff_ne];omega
        clear hrt hl
        go_enter Tryz.func14,Tryz.ntmps14
        go_wp2_with fail
        refine wp_region_noPanic ?_
        refine wp_region_held_drew (S:=(fun V:World=>V.cell? ⟨w.heap.size,0,none⟩=some (.int .i64 2)∧V.cell? ⟨w.heap.size,1,none⟩=some (.string t)∧V.cell? ⟨w.heap.size,2,none⟩=some (.slice Ac c.length cc)∧V.cell? ⟨w.heap.size,3,none⟩=some (.slice Ak ky.length ck)∧V.cell? ⟨w.heap.size,4,none⟩=some (.slice Au u.length cu)∧V.cell? ⟨w.heap.size,5,none⟩=some (.slice Ao o.length co)∧V.cell? ⟨w.heap.size,6,none⟩=some (.slice An n.length cn)∧V.cell? ⟨w.heap.size,7,none⟩=some (.slice As ns.length cs))) (by kernel_rfl) ?_ (fun hHr7_0=>?_)
        ·(try dsimp only);(first | assumption | exact HCX.out _ (Bel.refl _).drew | exact HCX.out _ hB1 | exact HCX.out _ (hB1.drew) | exact HCX.out _ hB2 | exact HCX.out _ hB3 | exact HCX.out _ hB4)
        refine tk 1 ?_
        refine tk 2 ?_
        refine rd1 0 (fun K hK=>?_)
        go_simp
        (go_at_call 27;refine (ekinds_any _).mono ?_;rintro e1 w1 ⟨m,f,bo,bn,rfl,hkd,-,-,hBo,hBn,hb1⟩;have hB1:=((Bel.refl _).drew).then_ hb1;have HB1:=Lib.hid hB1;have HBO:Hid (Boxes bo bn w1):=Lib.hid ⟨hBo,hBn⟩;obtain ⟨v,hv⟩:=Option.ne_none_iff_exists'.1 (hkd.2.2 2 hk.1 hk.2);have HPA:=Lib.hid (hkd.2.1 2 v hv).2.parts;rw [HPO.out] at HPA;obtain ⟨g,rfl,-⟩:=id HPA.out;have hlk:=run_lookup_map_ok (P:=Tryz.prog) Tryz.underlying71 Tryz.underlying22 (zeroParts w1) hkd.1 2;rw [hv] at hlk;simp only [Option.getD_some,Option.isSome_some] at hlk;clear hkd hBo hBn hv hb1)
        try (go_wp2_with fail)
        refine hK.out _ _ ?_ (fun hHr7_1=>?_)
        ·(try dsimp only);(first | assumption | exact HCX.out _ (Bel.refl _).drew | exact HCX.out _ hB1 | exact HCX.out _ (hB1.drew) | exact HCX.out _ hB2 | exact HCX.out _ hB3 | exact HCX.out _ hB4)
        clear hK K hHr7_0
        try simp only [tkp0,tkp1,tkp2,tkp3,tkp4,tkp5,tkp6,tkp7]
        refine rd1 3 (fun K hK=>?_)
        go_simp
        refine hK.out _ _ ?_ (fun hHr7_2=>?_)
        ·(try dsimp only);(first | assumption | exact HCX.out _ (Bel.refl _).drew | exact HCX.out _ hB1 | exact HCX.out _ (hB1.drew) | exact HCX.out _ hB2 | exact HCX.out _ hB3 | exact HCX.out _ hB4)
        clear hK K hHr7_1
        try simp only [tkp0,tkp1,tkp2,tkp3,tkp4,tkp5,tkp6,tkp7]
        refine tk 4 ?_
        refine tk 5 ?_
        refine tk 6 ?_
        refine tk 7 ?_
        refine tk 8 ?_
        refine wpAnyH_done (by kernel_rfl) ?_ _
        refine NoPanic.normal ?_
        go_wp2_with fail
        refine wp_region_noPanic ?_
        refine wp_region_held_drew (S:=(fun V:World=>V.cell? ⟨w.heap.size,0,none⟩=some (.int .i64 2)∧V.cell? ⟨w.heap.size,1,none⟩=some (.string t)∧V.cell? ⟨w.heap.size,2,none⟩=some (.slice Ac c.length cc)∧V.cell? ⟨w.heap.size,3,none⟩=some (.slice Ak ky.length ck)∧V.cell? ⟨w.heap.size,4,none⟩=some (.slice Au u.length cu)∧V.cell? ⟨w.heap.size,5,none⟩=some (.slice Ao o.length co)∧V.cell? ⟨w.heap.size,6,none⟩=some (.slice An n.length cn)∧V.cell? ⟨w.heap.size,7,none⟩=some (.slice As ns.length cs))) (by kernel_rfl) ?_ (fun hHr8_0=>?_)
        ·(try dsimp only);(first | assumption | exact HCX.out _ (Bel.refl _).drew | exact HCX.out _ hB1 | exact HCX.out _ (hB1.drew) | exact HCX.out _ hB2 | exact HCX.out _ hB3 | exact HCX.out _ hB4)
        refine tk 0 ?_
        refine tk 1 ?_
        refine tk 2 ?_
        refine tk 3 ?_
        refine tk 4 ?_
        refine rd1 5 (fun K hK=>?_)
        go_simp
        (go_at_call 33;refine (HB.out _ (HAL.out.then_ HB1.out.drew)).mono ?_;rintro e2 w2 ⟨vc2,vk2,vu2,vo2,vn2,vs2,rfl,hat2,hb2⟩;have hB2:=HB1.out.drew.then_ hb2;have HB2:=Lib.hid hB2;have HA2:=Lib.hid (hat2.bel hb2);obtain ⟨Ac2,cc2,Ak2,ck2,Au2,cu2,Ao2,co2,An2,cn2,As2,cs2,rfl,rfl,rfl,rfl,rfl,rfl⟩:=hat2.opened;have HB12:=Lib.hid (((Bel.refl w1).drew).then_ hb2);clear hat2 hb2)
        try (go_wp2_with fail)
        refine hK.out _ _ ?_ (fun hHr8_1=>?_)
        ·(try dsimp only);(first | assumption | exact HCX.out _ (Bel.refl _).drew | exact HCX.out _ hB1 | exact HCX.out _ (hB1.drew) | exact HCX.out _ hB2 | exact HCX.out _ hB3 | exact HCX.out _ hB4)
        clear hK K hHr8_0
        try simp only [tkp0,tkp1,tkp2,tkp3,tkp4,tkp5,tkp6,tkp7]
        refine rd1 6 (fun K hK=>?_)
        go_simp
        (go_at_call 18;refine (HS.out _ (HAL.out.then_ HB2.out) _ _ _ _ _ _ HA2.out).mono ?_;rintro e3 w3 ⟨rfl,hb3⟩;have hB3:=HB2.out.then_ hb3;have HB3:=Lib.hid hB3;have HB13:=Lib.hid (HB12.out.then_ hb3);clear hb3)
        try (go_wp2_with fail)
        refine hK.out _ _ ?_ (fun hHr8_2=>?_)
        ·(try dsimp only);(first | assumption | exact HCX.out _ (Bel.refl _).drew | exact HCX.out _ hB1 | exact HCX.out _ (hB1.drew) | exact HCX.out _ hB2 | exact HCX.out _ hB3 | exact HCX.out _ hB4)
        clear hK K hHr8_1
        try simp only [tkp0,tkp1,tkp2,tkp3,tkp4,tkp5,tkp6,tkp7]
        refine tk 7 ?_
        refine tk 8 ?_
        refine tk 9 ?_
        refine tk 10 ?_
        refine tk 11 ?_
        refine rd1 12 (fun K hK=>?_)
        go_simp
        (go_at_call 34;refine (HF.out bo bn _ _ (HAL.out.then_ HB3.out) (HBX.out.below HB3.out HBX.out.lt) (HBO.out.bel HB13.out) (HPA.out.bel HB13.out)).mono ?_;rintro e4 w4 ⟨rfl,hb4⟩;have hB4:=HB3.out.then_ hb4;have HB4:=Lib.hid hB4;clear hb4)
        try (go_wp2_with fail)
        refine hK.out _ _ ?_ (fun hHr8_3=>?_)
        ·(try dsimp only);(first | assumption | exact HCX.out _ (Bel.refl _).drew | exact HCX.out _ hB1 | exact HCX.out _ (hB1.drew) | exact HCX.out _ hB2 | exact HCX.out _ hB3 | exact HCX.out _ hB4)
        clear hK K hHr8_2
        try simp only [tkp0,tkp1,tkp2,tkp3,tkp4,tkp5,tkp6,tkp7]
        refine tk 13 ?_
        refine tk 14 ?_
        refine tk 15 ?_
        refine tk 16 ?_
        refine tk 17 ?_
        refine tk 18 ?_
        refine tk 19 ?_
        refine tk 20 ?_
        refine tk 21 ?_
        refine tk 22 ?_
        refine tk 23 ?_
        refine tk 24 ?_
        refine tk 25 ?_
        refine tk 26 ?_
        refine tk 27 ?_
        refine wpAnyH_done (by kernel_rfl) ?_ _
        refine NoPanic.normal ?_
        go_wp2
        go_ret
        exact ⟨rfl,HAL.out.then_ HB4.out⟩
      ·have hf:R=true:=by rw [hrt];exact decide_eq_true (fun h=>absurd h h2)
       subst hf
       have h2b:(k == 2)=false:=by rw [beq_eq_false_iff_ne];exact h2
       clear hrt
       go_enter Tryz.func14,Tryz.ntmps14
       go_wp2_with fail
       refine wp_region_noPanic ?_
       refine wp_region_held_drew (S:=(fun V:World=>V.cell? ⟨w.heap.size,0,none⟩=some (.int .i64 k)∧V.cell? ⟨w.heap.size,1,none⟩=some (.string t)∧V.cell? ⟨w.heap.size,2,none⟩=some (.slice Ac c.length cc)∧V.cell? ⟨w.heap.size,3,none⟩=some (.slice Ak ky.length ck)∧V.cell? ⟨w.heap.size,4,none⟩=some (.slice Au u.length cu)∧V.cell? ⟨w.heap.size,5,none⟩=some (.slice Ao o.length co)∧V.cell? ⟨w.heap.size,6,none⟩=some (.slice An n.length cn)∧V.cell? ⟨w.heap.size,7,none⟩=some (.slice As ns.length cs))) (by kernel_rfl) ?_ (fun hHr9_0=>?_)
       ·(try dsimp only);(first | assumption | exact HCX.out _ (Bel.refl _).drew | exact HCX.out _ hB1 | exact HCX.out _ (hB1.drew) | exact HCX.out _ hB2 | exact HCX.out _ hB3 | exact HCX.out _ hB4)
       refine tk 1 ?_
       refine tk 2 ?_
       refine rd1 0 (fun K hK=>?_)
       go_simp
       (go_at_call 27;refine (ekinds_any _).mono ?_;rintro e1 w1 ⟨m,f,bo,bn,rfl,hkd,-,-,hBo,hBn,hb1⟩;have hB1:=((Bel.refl _).drew).then_ hb1;have HB1:=Lib.hid hB1;have HBO:Hid (Boxes bo bn w1):=Lib.hid ⟨hBo,hBn⟩;obtain ⟨v,hv⟩:=Option.ne_none_iff_exists'.1 (hkd.2.2 k hk.1 hk.2);have HPA:=Lib.hid (hkd.2.1 k v hv).2.parts;rw [HPO.out] at HPA;obtain ⟨g,rfl,-⟩:=id HPA.out;have hlk:=run_lookup_map_ok (P:=Tryz.prog) Tryz.underlying71 Tryz.underlying22 (zeroParts w1) hkd.1 k;rw [hv] at hlk;simp only [Option.getD_some,Option.isSome_some] at hlk;clear hkd hBo hBn hv hb1)
       try (go_wp2_with fail)
       refine hK.out _ _ ?_ (fun hHr9_1=>?_)
       ·(try dsimp only);(first | assumption | exact HCX.out _ (Bel.refl _).drew | exact HCX.out _ hB1 | exact HCX.out _ (hB1.drew) | exact HCX.out _ hB2 | exact HCX.out _ hB3 | exact HCX.out _ hB4)
       clear hK K hHr9_0
       try simp only [tkp0,tkp1,tkp2,tkp3,tkp4,tkp5,tkp6,tkp7]
       refine rd1 3 (fun K hK=>?_)
       go_simp
       refine hK.out _ _ ?_ (fun hHr9_2=>?_)
       ·(try dsimp only);(first | assumption | exact HCX.out _ (Bel.refl _).drew | exact HCX.out _ hB1 | exact HCX.out _ (hB1.drew) | exact HCX.out _ hB2 | exact HCX.out _ hB3 | exact HCX.out _ hB4)
       clear hK K hHr9_1
       try simp only [tkp0,tkp1,tkp2,tkp3,tkp4,tkp5,tkp6,tkp7]
       refine tk 4 ?_
       refine tk 5 ?_
       refine tk 6 ?_
       refine tk 7 ?_
       refine tk 8 ?_
       refine wpAnyH_done (by kernel_rfl) ?_ _
       refine NoPanic.normal ?_
       go_wp2_with fail
       refine wp_region_noPanic ?_
       refine wp_region_held_drew (S:=(fun V:World=>V.cell? ⟨w.heap.size,0,none⟩=some (.int .i64 k)∧V.cell? ⟨w.heap.size,1,none⟩=some (.string t)∧V.cell? ⟨w.heap.size,2,none⟩=some (.slice Ac c.length cc)∧V.cell? ⟨w.heap.size,3,none⟩=some (.slice Ak ky.length ck)∧V.cell? ⟨w.heap.size,4,none⟩=some (.slice Au u.length cu)∧V.cell? ⟨w.heap.size,5,none⟩=some (.slice Ao o.length co)∧V.cell? ⟨w.heap.size,6,none⟩=some (.slice An n.length cn)∧V.cell? ⟨w.heap.size,7,none⟩=some (.slice As ns.length cs))) (by kernel_rfl) ?_ (fun hHr10_0=>?_)
       ·(try dsimp only);(first | assumption | exact HCX.out _ (Bel.refl _).drew | exact HCX.out _ hB1 | exact HCX.out _ (hB1.drew) | exact HCX.out _ hB2 | exact HCX.out _ hB3 | exact HCX.out _ hB4)
       refine tk 0 ?_
       refine tk 1 ?_
       refine tk 2 ?_
       refine tk 3 ?_
       refine tk 4 ?_
       refine rd1 5 (fun K hK=>?_)
       go_simp
       (go_at_call 33;refine (HB.out _ (HAL.out.then_ HB1.out.drew)).mono ?_;rintro e2 w2 ⟨vc2,vk2,vu2,vo2,vn2,vs2,rfl,hat2,hb2⟩;have hB2:=HB1.out.drew.then_ hb2;have HB2:=Lib.hid hB2;have HA2:=Lib.hid (hat2.bel hb2);obtain ⟨Ac2,cc2,Ak2,ck2,Au2,cu2,Ao2,co2,An2,cn2,As2,cs2,rfl,rfl,rfl,rfl,rfl,rfl⟩:=hat2.opened;have HB12:=Lib.hid (((Bel.refl w1).drew).then_ hb2);clear hat2 hb2)
       try (go_wp2_with fail)
       refine hK.out _ _ ?_ (fun hHr10_1=>?_)
       ·(try dsimp only);(first | assumption | exact HCX.out _ (Bel.refl _).drew | exact HCX.out _ hB1 | exact HCX.out _ (hB1.drew) | exact HCX.out _ hB2 | exact HCX.out _ hB3 | exact HCX.out _ hB4)
       clear hK K hHr10_0
       try simp only [tkp0,tkp1,tkp2,tkp3,tkp4,tkp5,tkp6,tkp7]
       refine rd1 6 (fun K hK=>?_)
       go_simp
       (go_at_call 18;refine (HS.out _ (HAL.out.then_ HB2.out) _ _ _ _ _ _ HA2.out).mono ?_;rintro e3 w3 ⟨rfl,hb3⟩;have hB3:=HB2.out.then_ hb3;have HB3:=Lib.hid hB3;have HB13:=Lib.hid (HB12.out.then_ hb3);clear hb3)
       try (go_wp2_with fail)
       refine hK.out _ _ ?_ (fun hHr10_2=>?_)
       ·(try dsimp only);(first | assumption | exact HCX.out _ (Bel.refl _).drew | exact HCX.out _ hB1 | exact HCX.out _ (hB1.drew) | exact HCX.out _ hB2 | exact HCX.out _ hB3 | exact HCX.out _ hB4)
       clear hK K hHr10_1
       try simp only [tkp0,tkp1,tkp2,tkp3,tkp4,tkp5,tkp6,tkp7]
       refine tk 7 ?_
       refine tk 8 ?_
       refine tk 9 ?_
       refine tk 10 ?_
       refine tk 11 ?_
       refine rd1 12 (fun K hK=>?_)
       go_simp
       (go_at_call 34;refine (HF.out bo bn _ _ (HAL.out.then_ HB3.out) (HBX.out.below HB3.out HBX.out.lt) (HBO.out.bel HB13.out) (HPA.out.bel HB13.out)).mono ?_;rintro e4 w4 ⟨rfl,hb4⟩;have hB4:=HB3.out.then_ hb4;have HB4:=Lib.hid hB4;clear hb4)
       try (go_wp2_with fail)
       refine hK.out _ _ ?_ (fun hHr10_3=>?_)
       ·(try dsimp only);(first | assumption | exact HCX.out _ (Bel.refl _).drew | exact HCX.out _ hB1 | exact HCX.out _ (hB1.drew) | exact HCX.out _ hB2 | exact HCX.out _ hB3 | exact HCX.out _ hB4)
       clear hK K hHr10_2
       try simp only [tkp0,tkp1,tkp2,tkp3,tkp4,tkp5,tkp6,tkp7]
       refine tk 13 ?_
       refine tk 14 ?_
       refine tk 15 ?_
       refine tk 16 ?_
       refine tk 17 ?_
       refine tk 18 ?_
       refine tn 19 ?_
       refine tn 20 ?_
       refine tn 21 ?_
       refine tn 22 ?_
       refine tn 23 ?_
       refine tn 24 ?_
       refine tn 25 ?_
       refine tk 26 ?_
       refine tk 27 ?_
       refine wpAnyH_done (by kernel_rfl) ?_ _
       refine NoPanic.normal ?_
       go_wp2
       go_ret
       exact ⟨rfl,HAL.out.then_ HB4.out⟩
 ·have hf:R=false:=by rw [hrt,decide_eq_false hk];rfl
  subst hf
  clear hrt
  go_enter Tryz.func14,Tryz.ntmps14
  go_wp2_with fail
  refine wp_region_noPanic ?_
  refine wp_region_held_drew (S:=(fun V:World=>V.cell? ⟨w.heap.size,0,none⟩=some (.int .i64 k)∧V.cell? ⟨w.heap.size,1,none⟩=some (.string t)∧V.cell? ⟨w.heap.size,2,none⟩=some (.slice Ac c.length cc)∧V.cell? ⟨w.heap.size,3,none⟩=some (.slice Ak ky.length ck)∧V.cell? ⟨w.heap.size,4,none⟩=some (.slice Au u.length cu)∧V.cell? ⟨w.heap.size,5,none⟩=some (.slice Ao o.length co)∧V.cell? ⟨w.heap.size,6,none⟩=some (.slice An n.length cn)∧V.cell? ⟨w.heap.size,7,none⟩=some (.slice As ns.length cs))) (by kernel_rfl) ?_ (fun hHr11_0=>?_)
  ·(try dsimp only);(first | assumption | exact HCX.out _ (Bel.refl _).drew | exact HCX.out _ hB1 | exact HCX.out _ (hB1.drew) | exact HCX.out _ hB2 | exact HCX.out _ hB3 | exact HCX.out _ hB4)
  refine tk 1 ?_
  refine tk 2 ?_
  refine rd1 0 (fun K hK=>?_)
  go_simp
  (go_at_call 27;refine (ekinds_any _).mono ?_;rintro e1 w1 ⟨m,f,bo,bn,rfl,hkd,-,-,hBo,hBn,hb1⟩;have hB1:=((Bel.refl _).drew).then_ hb1;have HB1:=Lib.hid hB1;have hv:f k=none:=(by cases hf:f k with | none=>rfl | some v=>exact absurd (hkd.2.1 k v hf).1 hk);have hlk:=run_lookup_map_ok (P:=Tryz.prog) Tryz.underlying71 Tryz.underlying22 (zeroParts w1) hkd.1 k;rw [hv] at hlk;simp only [Option.getD_none,Option.isSome_none] at hlk;clear hkd hBo hBn hv hb1)
  try (go_wp2_with fail)
  refine hK.out _ _ ?_ (fun hHr11_1=>?_)
  ·(try dsimp only);(first | assumption | exact HCX.out _ (Bel.refl _).drew | exact HCX.out _ hB1 | exact HCX.out _ (hB1.drew) | exact HCX.out _ hB2 | exact HCX.out _ hB3 | exact HCX.out _ hB4)
  clear hK K hHr11_0
  try simp only [tkp0,tkp1,tkp2,tkp3,tkp4,tkp5,tkp6,tkp7]
  refine rd1 3 (fun K hK=>?_)
  go_simp
  refine hK.out _ _ ?_ (fun hHr11_2=>?_)
  ·(try dsimp only);(first | assumption | exact HCX.out _ (Bel.refl _).drew | exact HCX.out _ hB1 | exact HCX.out _ (hB1.drew) | exact HCX.out _ hB2 | exact HCX.out _ hB3 | exact HCX.out _ hB4)
  clear hK K hHr11_1
  try simp only [tkp0,tkp1,tkp2,tkp3,tkp4,tkp5,tkp6,tkp7]
  refine tk 4 ?_
  refine tk 5 ?_
  refine tk 6 ?_
  refine tk 7 ?_
  refine tk 8 ?_
  refine wpAnyH_done (by kernel_rfl) ?_ _
  refine NoPanic.normal ?_
  go_wp2_with fail
  refine wp_region_noPanic ?_
  refine wp_region_held_drew (S:=(fun _:World=>True)) (by kernel_rfl) ?_ (fun hHr12_0=>?_)
  ·(try dsimp only);(first | done | trivial)
  refine tk 0 ?_
  refine tk 1 ?_
  refine tk 2 ?_
  refine tn 3 ?_
  refine tn 4 ?_
  refine tn 5 ?_
  refine tn 6 ?_
  refine tn 7 ?_
  refine tk 8 ?_
  refine tk 9 ?_
  refine tn 10 ?_
  refine tn 11 ?_
  refine tn 12 ?_
  refine tk 13 ?_
  refine tk 14 ?_
  refine tn 15 ?_
  refine tn 16 ?_
  refine tn 17 ?_
  refine tn 18 ?_
  refine tn 19 ?_
  refine tn 20 ?_
  refine tn 21 ?_
  refine tn 22 ?_
  refine tn 23 ?_
  refine tn 24 ?_
  refine tn 25 ?_
  refine tn 26 ?_
  refine tk 27 ?_
  refine wpAnyH_done (by kernel_rfl) ?_ _
  refine NoPanic.normal ?_
  go_wp2
  go_ret
  exact ⟨rfl,HAL.out.then_ HB1.out.drew⟩
end
end Go.Proofs.YtnajjhgbombboaaGreatDoor
