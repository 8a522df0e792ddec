/-
  Texts behind the statement: part 28.
-/
import Derived.Test.YtnajjhgbombboaaGreatDoorP27
import Derived.Deep.DeepCutAuto
set_option linter.unusedVariables false
set_option linter.unusedSimpArgs false
namespace Go.Proofs.YtnajjhgbombboaaGreatDoor
section
open Go.RowKit Go.Shelf Go.Lib
attribute [local go_sem] Oper.semAt_some
theorem bel_two {w V V':World} (h:Bel w V) (hk:BelS (fun j=>j ≠ w.heap.size∧j ≠ w.heap.size+1) V V'):Bel w V' :=
 ⟨hk.os.trans h.os,hk.tape.trans h.tape,hk.output.trans h.output,Nat.le_trans h.size hk.size,fun k hl=>(hk.block k (by show k ≠ w.heap.size∧k ≠ w.heap.size+1;omega) (Nat.lt_of_lt_of_le hl h.size)).trans (h.block k hl)⟩
theorem bel_ev {w W0 V:World} (h:Bel w W0) (hk:BelS (fun j=>j ≠ w.heap.size∧j ≠ w.heap.size+2) W0 V):Bel w V :=
 ⟨hk.os.trans h.os,hk.tape.trans h.tape,hk.output.trans h.output,Nat.le_trans h.size hk.size,fun k hl=>(hk.block k (by show k ≠ w.heap.size∧k ≠ w.heap.size+2;omega) (Nat.lt_of_lt_of_le hl h.size)).trans (h.block k hl)⟩
theorem blk_ev {w W0 V:World} {T:TypeId} {cs:Array Value} (h:Blk W0 (w.heap.size+1) T cs) (hk:BelS (fun j=>j ≠ w.heap.size∧j ≠ w.heap.size+2) W0 V):Blk V (w.heap.size+1) T cs :=
 (hk.block _ (by show w.heap.size+1 ≠ w.heap.size∧w.heap.size+1 ≠ w.heap.size+2;omega) h.lt).trans h
theorem EvB.here {gx bt:Nat} {w V:World} {e:Ev} {r:List UInt8} (h:EvB gx bt w V e r):EvB gx bt V V e r:=by
 obtain ⟨vc,vk,vu,vo,vn,vs,h1,h2⟩:=h
 exact ⟨vc,vk,vu,vo,vn,vs,⟨BelS.refl _ _,h1.box,h1.no,h1.tape,h1.lt,h1.size⟩,h2⟩
theorem RS.here {gx bt:Nat} {w V:World} {cs:Array Value} {r:List UInt8} (h:RS gx bt w V cs r):RS gx bt V V cs r:=⟨BelS.refl _ _,h.box,h.no,h.tape,h.lt,h.size⟩
theorem EvB.bel {gx bt:Nat} {w V V':World} {e:Ev} {r:List UInt8} (h:EvB gx bt w V e r) (hb:Bel V V'):EvB gx bt w V' e r:=by
 obtain ⟨vc,vk,vu,vo,vn,vs,h1,h2⟩:=h
 exact ⟨vc,vk,vu,vo,vn,vs,h1.bel hb,h2.keep (above_bel hb)⟩
theorem EvB.keep {gx bt:Nat} {w V:World} {e:Ev} {r:List UInt8} (h:EvB gx bt w V e r):BelS (fun j=>j ≠ gx∧j ≠ bt) w V:=by obtain ⟨vc,vk,vu,vo,vn,vs,h1,h2⟩:=h;exact h1.keep
theorem EvIn.less {B m:Nat} {w:World} {vc vk vu vo vn vs:Value} {e:Ev} (h:EvIn B w vc vk vu vo vn vs e) (hm:m≤B):EvIn m w vc vk vu vo vn vs e :=
 ⟨h.c.less hm,h.ky.less hm,h.u.less hm,h.o.less hm,h.n.less hm,by obtain ⟨b,h1,h2⟩:=h.ns;exact ⟨b,Nat.le_trans hm h1,h2⟩⟩
def GivesEv (o:Option Ev) (w:World) (e:Ending) (w':World):Prop:=match o with
 | some x=>∃ vc vk vu vo vn vs,e = .returned (.tuple #[evV x.k x.t vc vk vu vo vn vs,.int .i64 0])∧EvIn w.heap.size w' vc vk vu vo vn vs x∧Bel w w'
 | none=>e = .returned (.tuple #[evV 0 ⟨#[]⟩ (.slice none 0 0) (.slice none 0 0) (.slice none 0 0) (.slice none 0 0) (.slice none 0 0) (.slice none 0 0),.int .i64 180])∧Bel w w'
theorem eread_any (bo bn p gx bt:Nat) (hp:p≤4) (e:Ev) (s:List UInt8) (hs:s.length≤1000000) (V:World) (hb:Boxes bo bn V) (hne:bt<bo∧bt<bn) (h:EvB gx bt V V e s)
  (h2:p=2→e.ns=[] ∧ ∃ vc vk vu vo vn,RS gx bt V V (evCells e.k e.t vc vk vu vo vn (.slice none 0 0)) s∧EvIn (bt+1) V vc vk vu vo vn (.slice none 0 0) e) :
  Calls Tryz.prog (readFn p) (#[.pointer (some ⟨bt,0,none⟩),.pointer (some ⟨gx,0,none⟩)] ++ pLb bo bn p) V (ReadE p gx bt e s V):=by
 have hlt:=h.tape.2.1
 have hc:p=0 ∨ p=1 ∨ p=2 ∨ p=3 ∨ p=4:=by omega
 rcases hc with rfl | rfl | rfl | rfl | rfl
 ·exact eread_table gx bt e s hs V h
 ·exact eread_shape gx bt e s hs V h
 ·obtain ⟨h3,vc,vk,vu,vo,vn,h4,h5⟩:=h2 rfl
  exact eread_names gx bt e vc vk vu vo vn s hs V h4 h5 h3
 ·exact eread_old bo gx bt e s hs V hb.1 ⟨by omega,by omega⟩ h
 ·exact eread_new bn gx bt e s hs V hb.2 ⟨by omega,by omega⟩ h
theorem parts_two {k:Int} {j:Nat} (h:(partsOf k)[j]? = some 2):j=0:=by
 unfold partsOf at h
 split at h
 ·match j,h with
  | 0,h=>rfl
  | 1,h=>simp at h
  | j+2,h=>simp at h
 ·split at h
  ·match j,h with
   | 0,h=>rfl
   | 1,h=>simp at h
   | 2,h=>simp at h
   | j+3,h=>simp at h
  ·split at h
   ·match j,h with
    | 0,h=>rfl
    | 1,h=>simp at h
    | j+2,h=>simp at h
   ·split at h
    ·match j,h with
     | 0,h=>rfl
     | 1,h=>simp at h
     | j+2,h=>simp at h
    ·split at h
     ·match j,h with
      | 0,h=>rfl
      | j+1,h=>simp at h
     ·split at h
      ·match j,h with
       | 0,h=>rfl
       | j+1,h=>simp at h
      ·simp at h
theorem kinds_look {base bo bn m:Nat} {w:World} {f:Int→Option Value} {k:Nat} (h:KindsAt base bo bn w m f) (hk:k<7) : ∃ Ag,(f k).getD (.slice none 0 0) = .slice Ag (partsOf k).length (partsOf k).length ∧
  ∀ (j y:Nat),(partsOf (k:Int))[j]? = some y → ∃ g,Ag=some ⟨g,0,none⟩∧base≤g∧Blk w g 76 ((partsOf k).flatMap (partC bo bn)).toArray:=by
 by_cases h0:k=0
 ·subst h0
  have hf:f ((0:Nat):Int)=none:=by
   cases hf:f ((0:Nat):Int) with
   | none=>rfl
   | some v=>have:=(h.2.1 _ v hf).1.1;exact absurd this (by decide)
  rw [hf]
  exact ⟨none,rfl,fun j y hy=>by simp [partsOf] at hy⟩
 ·obtain ⟨v,hv⟩:=Option.ne_none_iff_exists'.1 (h.2.2 k (by omega) (by omega))
  obtain ⟨g,rfl,h2,h3⟩:=(h.2.1 _ v hv).2
  rw [hv]
  exact ⟨_,rfl,fun j y hy=>⟨g,rfl,h2,h3⟩⟩
theorem take_snoc {l:List Nat} {j y:Nat} (h:l[j]? = some y):l.take (j+1)=l.take j ++ [y]:=by
 rw [List.take_add_one,h]
 rfl
set_option maxRecDepth 100000 in
set_option maxHeartbeats 16000000 in
theorem edecode_any (vb:Value) (s:List UInt8) (hs:s.length≤1000000) (w:World) (hg:ErrType w) (hb:BsAt w vb s):Calls Tryz.prog 15 #[vb] w (GivesEv (decE s) w):=by
 have hmf : ∀ (fn:Fn) (first cap:Array Value) (w:World),(Instr.makeFunc fn first cap).run Tryz.prog w = .ok (.func fn first cap) w:=fun _ _ _ _=>rfl
 have HBS:=Lib.hid hb
 have HG:=Lib.hid hg
 obtain ⟨Ab,cb,rfl,hn,hmx,hrd⟩:=hb
 obtain ⟨R,hR⟩ : ∃ R,R=decE s:=⟨_,rfl⟩
 rw [← hR]
 obtain ⟨W0,hW0⟩ : ∃ V,V=((w.alloc (.cells #[.int .i64 0,.string ⟨#[]⟩,.slice none 0 0,.slice none 0 0,.slice none 0 0,.slice none 0 0,.slice none 0 0,.slice none 0 0] 31)).alloc (.cells #[.int .i64 0] 35)).alloc (.cells #[.slice Ab s.length cb] 89):=⟨_,rfl⟩
 have hsz0:W0.heap.size=w.heap.size+3:=by rw [hW0];simp
 have hb0:Bel w W0:=by rw [hW0];exact (((Bel.refl w).alloc _).alloc _).alloc _
 have k0:Blk W0 w.heap.size 31 #[.int .i64 0,.string ⟨#[]⟩,.slice none 0 0,.slice none 0 0,.slice none 0 0,.slice none 0 0,.slice none 0 0,.slice none 0 0]:=by rw [hW0];exact ((Blk.new w _ _).alloc _).alloc _
 have k1:Blk W0 (w.heap.size+1) 35 #[.int .i64 0]:=by
  rw [hW0]
  have:=(Blk.new (w.alloc (.cells #[.int .i64 0,.string ⟨#[]⟩,.slice none 0 0,.slice none 0 0,.slice none 0 0,.slice none 0 0,.slice none 0 0,.slice none 0 0] 31)) 35 #[.int .i64 0]).alloc (.cells #[.slice Ab s.length cb] 89)
  rw [World.size_alloc] at this
  exact this
 have k2:Blk W0 (w.heap.size+2) 89 #[.slice Ab s.length cb]:=by
  rw [hW0]
  have:=Blk.new ((w.alloc (.cells #[.int .i64 0,.string ⟨#[]⟩,.slice none 0 0,.slice none 0 0,.slice none 0 0,.slice none 0 0,.slice none 0 0,.slice none 0 0] 31)).alloc (.cells #[.int .i64 0] 35)) 89 #[.slice Ab s.length cb]
  rw [World.size_alloc,World.size_alloc] at this
  exact this
 have HT0:Hid (TapeAt W0 (w.heap.size+2) s):=Lib.hid ⟨Ab,cb,k2.cell 0,k2.frozen 0,hn,hmx,(hrd.keep fun p hp=>hb0.cell hp).more (by omega)⟩
 have HR0:Hid (RS w.heap.size (w.heap.size+2) W0 W0 #[.int .i64 0,.string ⟨#[]⟩,.slice none 0 0,.slice none 0 0,.slice none 0 0,.slice none 0 0,.slice none 0 0,.slice none 0 0] s):=Lib.hid ⟨BelS.refl _ _,k0,nobyte_ev (k:=0) (t:=⟨#[]⟩),HT0.out,by omega,by omega⟩
 have HE0:=Lib.hid k1
 have HB0:=Lib.hid hb0
 have HN:=Lib.hid (enumber_any (w.heap.size+2) s hs 7 (by omega) W0 HT0.out)
 clear hg hb0 k0 k1 k2 hrd hn hmx
 unfold decE pE at hR
 cases hx:pNum 7 s with
 | none =>
   rw [hx] at HN hR
   have hR0:R=none:=hR
   subst hR0
   clear hR hx
   go_enter_defers Tryz.func15,Tryz.ntmps15
   go_wp2_with fail
   rw [← hW0]
   clear hW0
   refine HN.out.mono ?_
   rintro e1 w1 ⟨rfl,hg1⟩
   have hk1:BelS (fun j=>j ≠ w.heap.size∧j ≠ w.heap.size+2) W0 w1:=(BelS.refl _ W0).grown hg1 (fun k e hk=>by cases e;exact hk.2 rfl)
   have hx1:Blk w1 w.heap.size 31 #[.int .i64 0,.string ⟨#[]⟩,.slice none 0 0,.slice none 0 0,.slice none 0 0,.slice none 0 0,.slice none 0 0,.slice none 0 0]:=HR0.out.box.grown hg1 (fun e=>by have:=Option.some.inj e;omega)
   try go_wp2
   refine leaves_cons (f:=36) (args:=#[.pointer (some ⟨w.heap.size+1,0,none⟩),.func (.func 37) #[] #[.pointer (some ⟨w.heap.size,0,none⟩)]]) (by simp) (by simp [go_sem]) ?_
   refine (ecaught_gave w.heap.size (w.heap.size+1) (by omega) _ _ _ _ _ _ _ _ w1 hx1 (blk_ev HE0.out hk1)).mono ?_
   rintro e9 u9 w9 ⟨rfl,rfl,hbs9,hx9,he9⟩
   have hb9:=Lib.hid (bel_two (bel_ev HB0.out hk1) hbs9)
   have z0:w9.cell? ⟨w.heap.size,0,none⟩=some (.int .i64 0):=hx9.cell 0
   have z1:w9.cell? ⟨w.heap.size,1,none⟩=some (.string ⟨#[]⟩):=hx9.cell 1
   have z2:w9.cell? ⟨w.heap.size,2,none⟩=some (.slice none 0 0):=hx9.cell 2
   have z3:w9.cell? ⟨w.heap.size,3,none⟩=some (.slice none 0 0):=hx9.cell 3
   have z4:w9.cell? ⟨w.heap.size,4,none⟩=some (.slice none 0 0):=hx9.cell 4
   have z5:w9.cell? ⟨w.heap.size,5,none⟩=some (.slice none 0 0):=hx9.cell 5
   have z6:w9.cell? ⟨w.heap.size,6,none⟩=some (.slice none 0 0):=hx9.cell 6
   have z7:w9.cell? ⟨w.heap.size,7,none⟩=some (.slice none 0 0):=hx9.cell 7
   have z8:w9.cell? ⟨w.heap.size+1,0,none⟩=some (.int .i64 180):=he9.cell 0
   clear hbs9 hx9 he9
   simp [Leaves,settle,results,Tryz.results15,go_sem,z0,z1,z2,z3,z4,z5,z6,z7,z8]
   exact ⟨rfl,hb9.out⟩
 | some q =>
   obtain ⟨k,r0⟩:=q
   rw [hx] at HN hR
   dsimp only at hR
   obtain ⟨hr0,hk7⟩:=pNum_len hx
   have hr0s:r0.length≤1000000:=by omega
   have hk7I:(k:Int)<7:=by omega
   have HLK:=Lib.hid (fun base bo bn m V f (h:KindsAt base bo bn V m f)=>kinds_look (k:=k) h hk7)
   have HTWO:=Lib.hid (fun (j:Nat) (h:(partsOf (k:Int))[j]? = some 2)=>parts_two h)
   have HPO:=Lib.hid (fun y (hy:y ∈ partsOf (k:Int))=>partsOf_le y hy)
   have hpl:=partsOf_len (k:=(k:Int))
   have hlen : ∀ (l:List Nat) (e e':Ev) (r r':List UInt8),readPs l e r=some (e',r')→e.Wf→e'.Wf:=readPs_wf
   have HWF:=Lib.hid (fun (e':Ev) (r':List UInt8) (h:readPs (partsOf (k:Int)) (evOf k) r0=some (e',r'))=>readPs_wf _ _ _ _ _ h (evOf_wf _))
   generalize partsOf (k:Int)=PO at *
   have HR:=Lib.hid hR
   clear hR hx hr0 hlen hk7
   go_enter_defers Tryz.func15,Tryz.ntmps15
   go_wp2_with fail
   rw [← hW0]
   clear hW0
   refine HN.out.mono ?_
   rintro e1 w1 ⟨rfl,ht1,hg1⟩
   have H1:=Lib.hid (HR0.out.taped hg1 ht1)
   have q0:w1.cell? ⟨w.heap.size,0,none⟩=some (.int .i64 0):=H1.out.box.cell 0
   have q1:w1.frozen? ⟨w.heap.size,0,none⟩=false:=H1.out.box.frozen 0
   have hwl:w.heap.size<w1.heap.size:=H1.out.box.lt
   have H2:Hid (RS w.heap.size (w.heap.size+2) W0 (w1.setCell ⟨w.heap.size,0,none⟩ (.int .i64 k)) (evCells k ⟨#[]⟩ (.slice none 0 0) (.slice none 0 0) (.slice none 0 0) (.slice none 0 0) (.slice none 0 0) (.slice none 0 0)) r0):=by
    have h:=H1.out.set 0 (.int .i64 k) (fun c e=>by cases e)
    simp only [List.setIfInBounds_toArray,List.set_cons_zero] at h
    exact Lib.hid h
   have HC0:Hid (∀ V,Bel (w1.setCell ⟨w.heap.size,0,none⟩ (.int .i64 k)) V→V.cell? ⟨w.heap.size,0,none⟩=some (.int .i64 k)):=Lib.hid (fun V hV=>(H2.out.box.below hV H2.out.box.lt).cell 0)
   clear ht1 hg1 HN
   go_wp2_with fail
   refine wp_region_noPanic ?_
   refine wp_region_held_drew (S:=(fun V:World=>V.cell? ⟨w.heap.size,0,none⟩=some (.int .i64 k))) (by kernel_rfl) ?_ (fun hHr1_0=>?_)
   ·(try dsimp only);(first | assumption | exact HC0.out _ (Bel.refl _).drew | exact HC0.out _ hB3)
   refine tk 1 ?_
   refine tk 2 ?_
   refine tk 5 ?_
   refine rd1 0 (fun K hK=>?_)
   go_simp
   (go_at_call 27;refine (ekinds_any _).mono ?_;rintro e1 w3 ⟨m,f,bo,bn,rfl,hkd,hbo2,hbn2,hBo,hBn,hb3⟩;have hB3:=((Bel.refl (w1.setCell ⟨w.heap.size,0,none⟩ (.int .i64 k))).drew).then_ hb3;have H3:=Lib.hid (H2.out.bel hB3);have HBO:Hid (Boxes bo bn w3):=Lib.hid ⟨hBo,hBn⟩;obtain ⟨Ag,hAg,hgs⟩:=HLK.out _ _ _ _ _ _ hkd;have HGS:=Lib.hid hgs;have hsz3:=hwl;have HBT:Hid (w.heap.size+2<bo∧w.heap.size+2<bn∧w.heap.size+3≤(w1.setCell ⟨w.heap.size,0,none⟩ (.int .i64 k)).drew.heap.size):=(by have:=H2.out.size;have h5:(w1.setCell ⟨w.heap.size,0,none⟩ (.int .i64 k)).drew.heap.size=(w1.setCell ⟨w.heap.size,0,none⟩ (.int .i64 k)).heap.size:=rfl;exact Lib.hid ⟨by omega,by omega,by omega⟩);have hlk:=run_lookup_map (P:=Tryz.prog) Tryz.underlying71 Tryz.underlying22 (zeroParts w3) hkd.1 k;rw [hAg] at hlk;clear hkd hBo hBn hb3 hgs hbo2 hbn2 hAg)
   try (go_wp2_with fail)
   refine hK.out _ _ ?_ (fun hHr1_1=>?_)
   ·(try dsimp only);(first | assumption | exact HC0.out _ (Bel.refl _).drew | exact HC0.out _ hB3)
   clear hK K hHr1_0
   try simp only [tkp0,tkp1,tkp2,tkp3,tkp4,tkp5,tkp6,tkp7]
   refine rd1 3 (fun K hK=>?_)
   go_simp
   refine hK.out _ _ ?_ (fun hHr1_2=>?_)
   ·(try dsimp only);(first | assumption | exact HC0.out _ (Bel.refl _).drew | exact HC0.out _ hB3)
   clear hK K hHr1_1
   try simp only [tkp0,tkp1,tkp2,tkp3,tkp4,tkp5,tkp6,tkp7]
   refine tk 4 ?_
   refine wpAnyH_done (by kernel_rfl) ?_ _
   refine NoPanic.normal ?_
   go_wp2
   go_loopw [21] (fun i wr=>∃ (j:Nat) (e:Ev) (r:List UInt8),j≤PO.length∧i = .int .i64 j∧r.length≤1000000∧Hid (readPs (PO.take j) (evOf k) r0=some (e,r)) ∧
    Hid (EvB w.heap.size (w.heap.size+2) w3 wr e r∧(j=0→e.ns=[] ∧ ∃ vc vk vu vo vn,RS w.heap.size (w.heap.size+2) w3 wr (evCells e.k e.t vc vk vu vo vn (.slice none 0 0)) r∧EvIn (w.heap.size+2+1) wr vc vk vu vo vn (.slice none 0 0) e))) (fun i _=>PO.length - (intOf i).toNat)
   case atStart =>
    have hEI:EvIn (w.heap.size+2+1) w3 (.slice none 0 0) (.slice none 0 0) (.slice none 0 0) (.slice none 0 0) (.slice none 0 0) (.slice none 0 0) (evOf k):=⟨cols_none _ _,ints_none _ _,lists_none _ _,vals_none _ _,vals_none _ _,pairs_none _ _⟩
    exact ⟨0,evOf k,r0,Nat.zero_le _,rfl,hr0s,rfl,⟨_,_,_,_,_,_,H3.out.here,hEI⟩,fun _=>⟨rfl,_,_,_,_,_,H3.out.here,hEI⟩⟩
   case round =>
    obtain ⟨j,e,r,hj,rfl,hrs,HL,HO⟩:=hrel
    by_cases hlt:j<PO.length
    ·obtain ⟨y,hy⟩ : ∃ y,PO[j]? = some y:=⟨_,List.getElem?_eq_getElem hlt⟩
     have hym:y ∈ PO:=List.mem_of_getElem? hy
     have hy4:=HPO.out y hym
     obtain ⟨g,rfl,hg2,hgB⟩:=HGS.out j y hy
     have hq:=parts_cell hgB hy (partC_form bo bn hy4)
     have hgn:g ≠ w.heap.size∧g ≠ w.heap.size+2:=by have:=HBT.out.2.2;omega
     have hmg:wr.heap[g]? = w3.heap[g]?:=HO.out.1.keep.block g hgn hgB.lt
     have hc0:=(World.cell?_of_block (a:=⟨g,j * 3,none⟩) hmg).trans hq.1
     have hc1:=(World.cell?_of_block (a:=⟨g,j * 3+1,none⟩) hmg).trans hq.2.1
     have hc2:=(World.cell?_of_block (a:=⟨g,j * 3+2,none⟩) hmg).trans hq.2.2
     have HBW:Hid (Boxes bo bn wr):=Lib.hid ⟨(HO.out.1.keep.block bo (by have:=HBT.out.1;show bo ≠ _∧bo ≠ _;omega) HBO.out.1.lt).trans HBO.out.1,(HO.out.1.keep.block bn (by have:=HBT.out.2.1;show bn ≠ _∧bn ≠ _;omega) HBO.out.2.lt).trans HBO.out.2⟩
     have hjI:(j:Int)<PO.length:=by omega
     have eg:=readFn_enters hy4
     have hgl:g<wr.heap.size:=by have:=(World.block_lt_of_cell? (w:=wr) (a:=⟨g,j * 3,none⟩) hc0);exact this
     have HRD:=Lib.hid (fun V (hV:Bel wr V)=>eread_any bo bn y w.heap.size (w.heap.size+2) hy4 e r hrs V (HBW.out.bel hV) ⟨HBT.out.1,HBT.out.2.1⟩ (HO.out.1.here.bel hV).here (fun h2=>by
      subst h2
      obtain ⟨a,vc,vk,vu,vo,vn,b,c⟩:=HO.out.2 (HTWO.out j hy)
      exact ⟨a,vc,vk,vu,vo,vn,(b.bel hV).here,c.keep (above_bel hV)⟩))
     have HTK:=Lib.hid (take_snoc hy)
     have hwl2:w.heap.size<wr.heap.size:=by have:=HO.out.1.tape;omega
     obtain ⟨RP,hRP⟩ : ∃ RP,RP=readP y e r:=⟨_,rfl⟩
     unfold ReadE at HRD
     rw [← hRP] at HRD
     have HSN:Hid (readPs (PO.take (j+1)) (evOf k) r0=RP):=Lib.hid (by rw [HTK.out,readPs_snoc,HL.out];exact hRP.symm)
     have HRL:=Lib.hid (fun e' s' (h:RP=some (e',s'))=>readP_len (hRP.symm.trans h))
     clear hy hym hq hmg hgB hRP
     generalize pLb bo bn y=LB at HRD hc0 hc1 hc2
     cases RP with
     | none =>
       have hR0:R=none:=by
        have h1:readPs PO (evOf k) r0=none:=by
         rw [← List.take_append_drop (j+1) PO]
         exact readPs_bad _ _ _ _ HSN.out
        have h2:=HR.out
        rw [h1] at h2
        exact h2
       subst hR0
       dsimp only at HRD
       go_wp2_with (go_at_fn (readFn y);refine (HRD.out _ ((Bel.refl wr).alloc _)).mono ?_;rintro e4 w4 ⟨rfl,hk4,k4,t4,vc4,vk4,vu4,vo4,vn4,vs4,hx4⟩;have hk5:=(H3.out.keep.trans (HO.out.1.keep.trans (BelS.of_bel ((Bel.refl wr).alloc (.cells #[.func (.func (mayFn y)) #[] LB,.func (.func (layFn y)) #[] LB,.func (.func (readFn y)) #[] LB] 76))))).trans hk4)
       try go_wp2
       refine leaves_cons (f:=36) (args:=#[.pointer (some ⟨w.heap.size+1,0,none⟩),.func (.func 37) #[] #[.pointer (some ⟨w.heap.size,0,none⟩)]]) (by simp) (by simp [go_sem]) ?_
       refine (ecaught_gave w.heap.size (w.heap.size+1) (by omega) _ _ _ _ _ _ _ _ w4 hx4 (blk_ev HE0.out hk5)).mono ?_
       rintro e9 u9 w9 ⟨rfl,rfl,hbs9,hx9,he9⟩
       have hb9:=Lib.hid (bel_two (bel_ev HB0.out hk5) hbs9)
       have z0:w9.cell? ⟨w.heap.size,0,none⟩=some (.int .i64 0):=hx9.cell 0
       have z1:w9.cell? ⟨w.heap.size,1,none⟩=some (.string ⟨#[]⟩):=hx9.cell 1
       have z2:w9.cell? ⟨w.heap.size,2,none⟩=some (.slice none 0 0):=hx9.cell 2
       have z3:w9.cell? ⟨w.heap.size,3,none⟩=some (.slice none 0 0):=hx9.cell 3
       have z4:w9.cell? ⟨w.heap.size,4,none⟩=some (.slice none 0 0):=hx9.cell 4
       have z5:w9.cell? ⟨w.heap.size,5,none⟩=some (.slice none 0 0):=hx9.cell 5
       have z6:w9.cell? ⟨w.heap.size,6,none⟩=some (.slice none 0 0):=hx9.cell 6
       have z7:w9.cell? ⟨w.heap.size,7,none⟩=some (.slice none 0 0):=hx9.cell 7
       have z8:w9.cell? ⟨w.heap.size+1,0,none⟩=some (.int .i64 180):=he9.cell 0
       clear hbs9 hx9 he9
       simp [Leaves,settle,results,Tryz.results15,go_sem,z0,z1,z2,z3,z4,z5,z6,z7,z8]
       exact ⟨rfl,hb9.out⟩
     | some q =>
       obtain ⟨e',r'⟩:=q
       dsimp only at HRD
       have hr':=HRL.out e' r' rfl
       go_wp2_with (go_at_fn (readFn y);refine (HRD.out _ ((Bel.refl wr).alloc _)).mono ?_;rintro e4 w4 ⟨rfl,h4⟩;have H4:=Lib.hid (h4.more (HO.out.1.keep.trans (BelS.of_bel ((Bel.refl wr).alloc (.cells #[.func (.func (mayFn y)) #[] LB,.func (.func (layFn y)) #[] LB,.func (.func (readFn y)) #[] LB] 76)))) (by have:=H3.out.size;omega));clear h4)
       go_roundw
       case rel=>exact ⟨j+1,e',r',by omega,by go_num,by omega,HSN.out,H4.out,fun h=>by omega⟩
       case measure=>simp [intOf];omega
    ·obtain rfl:j=PO.length:=by omega
     have hL:=HL.out
     rw [List.take_length] at hL
     have hwf:=HWF.out e r hL
     have hRR:=HR.out
     rw [hL] at hRR
     dsimp only at hRR
     have HRR:=Lib.hid hRR
     obtain ⟨vc,vk,vu,vo,vn,vs,h1,h2⟩:=HO.out.1
     have HK5:=Lib.hid (H3.out.keep.trans h1.keep)
     have HBR:=Lib.hid (bel_ev HB0.out HK5.out)
     have HEN:=Lib.hid (eencode_any e vc vk vu vo vn vs wr (HG.out.bel HBR.out) hwf h2.at_)
     obtain ⟨Ac,cc,Ak,ck,Au,cu,Ao,co,An,cn,As,cs,rfl,rfl,rfl,rfl,rfl,rfl⟩:=h2.at_.opened
     have HX:=Lib.hid h1
     have HI:=Lib.hid h2
     have HERR:=Lib.hid (blk_ev HE0.out HK5.out)
     unfold evV at HEN
     have x0:wr.cell? ⟨w.heap.size,0,none⟩=some (.int .i64 e.k):=HX.out.box.cell 0
     have x1:wr.cell? ⟨w.heap.size,1,none⟩=some (.string e.t):=HX.out.box.cell 1
     have x2:wr.cell? ⟨w.heap.size,2,none⟩=some (.slice Ac e.c.length cc):=HX.out.box.cell 2
     have x3:wr.cell? ⟨w.heap.size,3,none⟩=some (.slice Ak e.ky.length ck):=HX.out.box.cell 3
     have x4:wr.cell? ⟨w.heap.size,4,none⟩=some (.slice Au e.u.length cu):=HX.out.box.cell 4
     have x5:wr.cell? ⟨w.heap.size,5,none⟩=some (.slice Ao e.o.length co):=HX.out.box.cell 5
     have x6:wr.cell? ⟨w.heap.size,6,none⟩=some (.slice An e.n.length cn):=HX.out.box.cell 6
     have x7:wr.cell? ⟨w.heap.size,7,none⟩=some (.slice As e.ns.length cs):=HX.out.box.cell 7
     clear hL hwf hRR h1 h2 HL HO HR HWF hlt hj
     unfold encER at HEN
     cases hri:rightE e with
     | false =>
       rw [hri] at HEN
       simp only [Bool.false_eq_true,if_false] at HEN
       have hR0:R=none:=by rw [HRR.out,hri];rfl
       subst hR0
       go_wp2_with fail
       refine HEN.out.mono ?_
       rintro e5 w5 ⟨v5,rfl,hv5,hb5⟩
       obtain ⟨A5,c5,rfl,-⟩:=hv5
       have H5:=Lib.hid (HX.out.bel hb5)
       have HE5:=Lib.hid (HERR.out.below hb5 HERR.out.lt)
       have HB5:=Lib.hid (HBR.out.then_ hb5)
       clear hb5 x0 x1 x2 x3 x4 x5 x6 x7
       go_wp2_with (go_at_call 39;refine (emust_no _).mono ?_;rintro e6 w6 ⟨rfl,rfl⟩)
       try go_wp2
       refine leaves_cons (f:=36) (args:=#[.pointer (some ⟨w.heap.size+1,0,none⟩),.func (.func 37) #[] #[.pointer (some ⟨w.heap.size,0,none⟩)]]) (by simp) (by simp [go_sem]) ?_
       refine (ecaught_gave w.heap.size (w.heap.size+1) (by omega) _ _ _ _ _ _ _ _ w5 H5.out.box HE5.out).mono ?_
       rintro e9 u9 w9 ⟨rfl,rfl,hbs9,hx9,he9⟩
       have hb9:=Lib.hid (bel_two HB5.out hbs9)
       have z0:w9.cell? ⟨w.heap.size,0,none⟩=some (.int .i64 0):=hx9.cell 0
       have z1:w9.cell? ⟨w.heap.size,1,none⟩=some (.string ⟨#[]⟩):=hx9.cell 1
       have z2:w9.cell? ⟨w.heap.size,2,none⟩=some (.slice none 0 0):=hx9.cell 2
       have z3:w9.cell? ⟨w.heap.size,3,none⟩=some (.slice none 0 0):=hx9.cell 3
       have z4:w9.cell? ⟨w.heap.size,4,none⟩=some (.slice none 0 0):=hx9.cell 4
       have z5:w9.cell? ⟨w.heap.size,5,none⟩=some (.slice none 0 0):=hx9.cell 5
       have z6:w9.cell? ⟨w.heap.size,6,none⟩=some (.slice none 0 0):=hx9.cell 6
       have z7:w9.cell? ⟨w.heap.size,7,none⟩=some (.slice none 0 0):=hx9.cell 7
       have z8:w9.cell? ⟨w.heap.size+1,0,none⟩=some (.int .i64 180):=he9.cell 0
       clear hbs9 hx9 he9
       simp [Leaves,settle,results,Tryz.results15,go_sem,z0,z1,z2,z3,z4,z5,z6,z7,z8]
       exact ⟨rfl,hb9.out⟩
     | true =>
       rw [hri] at HEN
       simp only [if_true] at HEN
       go_wp2_with fail
       refine HEN.out.mono ?_
       rintro e5 w5 ⟨v5,rfl,hv5,hb5⟩
       have HB5:=Lib.hid (HBR.out.then_ hb5)
       have HEQ:=slEqualBytes_any v5 (.slice Ab s.length cb) (encE e) s w5 hv5 (HBS.out.bel HB5.out)
       obtain ⟨A5,c5,rfl,-⟩:=hv5
       have H5:=Lib.hid (HX.out.bel hb5)
       have HI5:=Lib.hid (HI.out.keep (above_bel hb5))
       have HE5:=Lib.hid (HERR.out.below hb5 HERR.out.lt)
       clear hb5 x0 x1 x2 x3 x4 x5 x6 x7
       by_cases heq:encE e=s
       ·obtain rfl:R=some e:=by rw [HRR.out,if_pos ⟨hri,heq⟩]
        rw [decide_eq_true heq] at HEQ
        have HEQ:=Lib.hid HEQ
        clear HRR hri heq
        go_wp2_with fail
        refine HEQ.out.mono ?_
        rintro e6 w6 ⟨rfl,hb6⟩
        have H6:=Lib.hid (H5.out.bel hb6)
        have HI6:=Lib.hid (HI5.out.keep (above_bel hb6))
        have HE6:=Lib.hid (HE5.out.below hb6 HE5.out.lt)
        have HB6:=Lib.hid (HB5.out.then_ hb6)
        have y0:w6.cell? ⟨w.heap.size,0,none⟩=some (.int .i64 e.k):=H6.out.box.cell 0
        have yf0:w6.frozen? ⟨w.heap.size,0,none⟩=false:=H6.out.box.frozen 0
        have y1:w6.cell? ⟨w.heap.size,1,none⟩=some (.string e.t):=H6.out.box.cell 1
        have yf1:w6.frozen? ⟨w.heap.size,1,none⟩=false:=H6.out.box.frozen 1
        have y2:w6.cell? ⟨w.heap.size,2,none⟩=some (.slice Ac e.c.length cc):=H6.out.box.cell 2
        have yf2:w6.frozen? ⟨w.heap.size,2,none⟩=false:=H6.out.box.frozen 2
        have y3:w6.cell? ⟨w.heap.size,3,none⟩=some (.slice Ak e.ky.length ck):=H6.out.box.cell 3
        have yf3:w6.frozen? ⟨w.heap.size,3,none⟩=false:=H6.out.box.frozen 3
        have y4:w6.cell? ⟨w.heap.size,4,none⟩=some (.slice Au e.u.length cu):=H6.out.box.cell 4
        have yf4:w6.frozen? ⟨w.heap.size,4,none⟩=false:=H6.out.box.frozen 4
        have y5:w6.cell? ⟨w.heap.size,5,none⟩=some (.slice Ao e.o.length co):=H6.out.box.cell 5
        have yf5:w6.frozen? ⟨w.heap.size,5,none⟩=false:=H6.out.box.frozen 5
        have y6:w6.cell? ⟨w.heap.size,6,none⟩=some (.slice An e.n.length cn):=H6.out.box.cell 6
        have yf6:w6.frozen? ⟨w.heap.size,6,none⟩=false:=H6.out.box.frozen 6
        have y7:w6.cell? ⟨w.heap.size,7,none⟩=some (.slice As e.ns.length cs):=H6.out.box.cell 7
        have yf7:w6.frozen? ⟨w.heap.size,7,none⟩=false:=H6.out.box.frozen 7
        have y8:w6.cell? ⟨w.heap.size+1,0,none⟩=some (.int .i64 0):=HE6.out.cell 0
        have yf8:w6.frozen? ⟨w.heap.size+1,0,none⟩=false:=HE6.out.frozen 0
        clear hb6
        go_wp2_with (go_at_call 39;refine (emust_yes _).mono ?_;rintro e7 w7 ⟨rfl,rfl⟩)
        obtain ⟨Wf,hWf⟩ : ∃ V,V=(((((((((w6.setCell ⟨w.heap.size,0,none⟩ (.int .i64 e.k)).setCell ⟨w.heap.size,1,none⟩ (.string e.t)).setCell ⟨w.heap.size,2,none⟩ (.slice Ac e.c.length cc)).setCell ⟨w.heap.size,3,none⟩ (.slice Ak e.ky.length ck)).setCell ⟨w.heap.size,4,none⟩ (.slice Au e.u.length cu)).setCell ⟨w.heap.size,5,none⟩ (.slice Ao e.o.length co)).setCell ⟨w.heap.size,6,none⟩ (.slice An e.n.length cn)).setCell ⟨w.heap.size,7,none⟩ (.slice As e.ns.length cs)).setCell ⟨w.heap.size+1,0,none⟩ (.int .i64 0)):=⟨_,rfl⟩
        rw [← hWf]
        have r0':Wf.cell? ⟨w.heap.size,0,none⟩=some (.int .i64 e.k):=by rw [hWf];go_simp
        have r1:Wf.cell? ⟨w.heap.size,1,none⟩=some (.string e.t):=by rw [hWf];go_simp
        have r2:Wf.cell? ⟨w.heap.size,2,none⟩=some (.slice Ac e.c.length cc):=by rw [hWf];go_simp
        have r3:Wf.cell? ⟨w.heap.size,3,none⟩=some (.slice Ak e.ky.length ck):=by rw [hWf];go_simp
        have r4:Wf.cell? ⟨w.heap.size,4,none⟩=some (.slice Au e.u.length cu):=by rw [hWf];go_simp
        have r5:Wf.cell? ⟨w.heap.size,5,none⟩=some (.slice Ao e.o.length co):=by rw [hWf];go_simp
        have r6:Wf.cell? ⟨w.heap.size,6,none⟩=some (.slice An e.n.length cn):=by rw [hWf];go_simp
        have r7:Wf.cell? ⟨w.heap.size,7,none⟩=some (.slice As e.ns.length cs):=by rw [hWf];go_simp
        have r8:Wf.cell? ⟨w.heap.size+1,0,none⟩=some (.int .i64 0):=by rw [hWf];go_simp
        have hfin:Hid (Bel w Wf∧EvIn w.heap.size Wf (.slice Ac e.c.length cc) (.slice Ak e.ky.length ck) (.slice Au e.u.length cu) (.slice Ao e.o.length co) (.slice An e.n.length cn) (.slice As e.ns.length cs) e):=by
         rw [hWf]
         have a0:=fun (i:Nat) (u:Value) (V:World)=>above_set (gx:=w.heap.size) (n:=w.heap.size+2+1) (i:=i) (u:=u) (V:=V) (by omega)
         exact Lib.hid ⟨(((((((((HB6.out.setCell (p:=⟨w.heap.size,0,none⟩) (Nat.le_refl _) (.int .i64 e.k)).setCell (p:=⟨w.heap.size,1,none⟩) (Nat.le_refl _) (.string e.t)).setCell (p:=⟨w.heap.size,2,none⟩) (Nat.le_refl _) (.slice Ac e.c.length cc)).setCell (p:=⟨w.heap.size,3,none⟩) (Nat.le_refl _) (.slice Ak e.ky.length ck)).setCell (p:=⟨w.heap.size,4,none⟩) (Nat.le_refl _) (.slice Au e.u.length cu)).setCell (p:=⟨w.heap.size,5,none⟩) (Nat.le_refl _) (.slice Ao e.o.length co)).setCell (p:=⟨w.heap.size,6,none⟩) (Nat.le_refl _) (.slice An e.n.length cn)).setCell (p:=⟨w.heap.size,7,none⟩) (Nat.le_refl _) (.slice As e.ns.length cs)).setCell (p:=⟨w.heap.size+1,0,none⟩) (Nat.le_succ _) (.int .i64 0)),((((((((((HI6.out.keep (a0 0 _ _)).keep (a0 1 _ _)).keep (a0 2 _ _)).keep (a0 3 _ _)).keep (a0 4 _ _)).keep (a0 5 _ _)).keep (a0 6 _ _)).keep (a0 7 _ _)).keep (above_set (gx:=w.heap.size+1) (n:=w.heap.size+2+1) (i:=0) (by omega)))).less (by omega)⟩
        clear hWf y0 yf0 y1 yf1 y2 yf2 y3 yf3 y4 yf4 y5 yf5 y6 yf6 y7 yf7 y8 yf8
        try go_wp2
        refine leaves_cons (f:=36) (args:=#[.pointer (some ⟨w.heap.size+1,0,none⟩),.func (.func 37) #[] #[.pointer (some ⟨w.heap.size,0,none⟩)]]) (by simp) (by simp [go_sem]) ?_
        refine (ecaught_idle _ _ _).mono ?_
        rintro e8 u8 w8 ⟨rfl,rfl,rfl⟩
        simp [Leaves,settle,results,Tryz.results15,go_sem,r0',r1,r2,r3,r4,r5,r6,r7,r8]
        exact ⟨_,_,_,_,_,_,rfl,hfin.out.2,hfin.out.1⟩
       ·have hR0:R=none:=by rw [HRR.out,if_neg (fun h=>heq h.2)]
        subst hR0
        rw [decide_eq_false heq] at HEQ
        have HEQ:=Lib.hid HEQ
        clear HRR hri heq
        go_wp2_with fail
        refine HEQ.out.mono ?_
        rintro e6 w6 ⟨rfl,hb6⟩
        have H6:=Lib.hid (H5.out.bel hb6)
        have HE6:=Lib.hid (HE5.out.below hb6 HE5.out.lt)
        have HB6:=Lib.hid (HB5.out.then_ hb6)
        clear hb6
        go_wp2_with (go_at_call 39;refine (emust_no _).mono ?_;rintro e7 w7 ⟨rfl,rfl⟩)
        try go_wp2
        refine leaves_cons (f:=36) (args:=#[.pointer (some ⟨w.heap.size+1,0,none⟩),.func (.func 37) #[] #[.pointer (some ⟨w.heap.size,0,none⟩)]]) (by simp) (by simp [go_sem]) ?_
        refine (ecaught_gave w.heap.size (w.heap.size+1) (by omega) _ _ _ _ _ _ _ _ w6 H6.out.box HE6.out).mono ?_
        rintro e9 u9 w9 ⟨rfl,rfl,hbs9,hx9,he9⟩
        have hb9:=Lib.hid (bel_two HB6.out hbs9)
        have z0:w9.cell? ⟨w.heap.size,0,none⟩=some (.int .i64 0):=hx9.cell 0
        have z1:w9.cell? ⟨w.heap.size,1,none⟩=some (.string ⟨#[]⟩):=hx9.cell 1
        have z2:w9.cell? ⟨w.heap.size,2,none⟩=some (.slice none 0 0):=hx9.cell 2
        have z3:w9.cell? ⟨w.heap.size,3,none⟩=some (.slice none 0 0):=hx9.cell 3
        have z4:w9.cell? ⟨w.heap.size,4,none⟩=some (.slice none 0 0):=hx9.cell 4
        have z5:w9.cell? ⟨w.heap.size,5,none⟩=some (.slice none 0 0):=hx9.cell 5
        have z6:w9.cell? ⟨w.heap.size,6,none⟩=some (.slice none 0 0):=hx9.cell 6
        have z7:w9.cell? ⟨w.heap.size,7,none⟩=some (.slice none 0 0):=hx9.cell 7
        have z8:w9.cell? ⟨w.heap.size+1,0,none⟩=some (.int .i64 180):=he9.cell 0
        clear hbs9 hx9 he9
        simp [Leaves,settle,results,Tryz.results15,go_sem,z0,z1,z2,z3,z4,z5,z6,z7,z8]
        exact ⟨rfl,hb9.out⟩
end
section
open Go.RowKit Go.Shelf Go.Lib
def encT (x:Ev):List UInt8:=textB (encE x)
def encTs:List Ev→List UInt8
 | []=>[]
 | x :: l=>encT x ++ encTs l
theorem encTs_app : ∀ (a:List Ev) (x:Ev),encTs (a ++ [x])=encTs a ++ encT x
 | [],x=>by simp [encTs]
 | y :: a,x=>by rw [List.cons_append,encTs,encTs,encTs_app a x,List.append_assoc]
def encEs (l:List Ev):List UInt8:=numB l.length ++ encTs l
def packR (l:List Ev):List UInt8×Int:=if 100<l.length then ([],3) else if l.all rightE=true then (encEs l,0) else ([],2)
theorem encE_len {x:Ev} (h:rightE x=true) (hw:x.Wf):(encE x).length≤6009:=by
 obtain ⟨hk,-,hm,-⟩:=rightE_parts h
 have h9:=numB_9 (n:=x.k.toNat) (by omega)
 have hl : ∀ l:List Nat,l.all (mayP x)=true→(l.flatMap (layP x)).length≤2000 * l.length:=by
  intro l
  induction l with
  | nil=>intro _;simp
  | cons p l ih =>
    intro h
    rw [List.all_cons,Bool.and_eq_true] at h
    have h1:=layP_len h.1 hw
    have h2:=ih h.2
    rw [List.flatMap_cons,List.length_append,List.length_cons]
    omega
 have h3:=hl _ hm
 have h4:=partsOf_len (k:=x.k)
 unfold encE
 rw [List.length_append]
 omega
theorem encT_len {x:Ev} (h:rightE x=true) (hw:x.Wf):(encT x).length≤6018:=by
 have h1:=encE_len h hw
 have h9:=numB_9 (n:=(encE x).length) (by omega)
 unfold encT textB
 rw [List.length_append]
 omega
def EvRow (w:World) (b o:Nat) (x:Ev):Prop:=∃ vc vk vu vo vn vs,EvAt w vc vk vu vo vn vs x∧w.cell? ⟨b,o,none⟩=some (.int .i64 x.k)∧w.cell? ⟨b,o+1,none⟩=some (.string x.t)∧w.cell? ⟨b,o+2,none⟩=some vc∧w.cell? ⟨b,o+3,none⟩=some vk∧w.cell? ⟨b,o+4,none⟩=some vu ∧
 w.cell? ⟨b,o+5,none⟩=some vo∧w.cell? ⟨b,o+6,none⟩=some vn∧w.cell? ⟨b,o+7,none⟩=some vs
theorem EvRow.bel {w w':World} {b o:Nat} {x:Ev} (h:EvRow w b o x) (hb:Bel w w'):EvRow w' b o x:=by
 obtain ⟨vc,vk,vu,vo,vn,vs,h0,h1,h2,h3,h4,h5,h6,h7,h8⟩:=h
 exact ⟨vc,vk,vu,vo,vn,vs,h0.bel hb,hb.c h1,hb.c h2,hb.c h3,hb.c h4,hb.c h5,hb.c h6,hb.c h7,hb.c h8⟩
def EventsAt (w:World) (v:Value) (l:List Ev):Prop:=∃ A c,v = .slice A l.length c∧l.length≤c∧c≤maxLen∧(0<l.length → ∃ b off,A=some ⟨b,off,none⟩ ∧ ∀ (i:Nat) (x:Ev),l[i]? = some x→EvRow w b (off+i * 8) x)
theorem EventsAt.bel {w w':World} {v:Value} {l:List Ev} (h:EventsAt w v l) (hb:Bel w w'):EventsAt w' v l:=by
 obtain ⟨A,c,e,hc,hm,h⟩:=h
 exact ⟨A,c,e,hc,hm,fun hl=>by obtain ⟨b,off,ea,hi⟩:=h hl;exact ⟨b,off,ea,fun i x hx=>(hi i x hx).bel hb⟩⟩
theorem events_nil (w:World):EventsAt w (.slice none 0 0) []:=⟨none,0,rfl,Nat.le_refl _,Nat.zero_le _,fun h=>absurd h (by simp)⟩
end
section
open Go.ChangeShapes Go.WideShapes Go.RowKit
section
variable {H:Type} {enc:TypeId×Value→H} {w:World} {base:Nat} {spare:Nat→Bool} {held:Bool}
theorem list_of {α : Type} {n:Nat} {p:Nat → α → Prop} (h : ∀ i,i<n → ∃ x,p i x) : ∃ l:List α,l.length=n ∧ ∀ i x,l[i]? = some x→p i x:=by
 induction n with
 | zero=>exact ⟨[],rfl,fun i x hx=>by simp at hx⟩
 | succ n ih =>
   obtain ⟨l,hl,hp⟩:=ih (fun i hi=>h i (by omega))
   obtain ⟨x,hx⟩:=h n (by omega)
   refine ⟨l ++ [x],by simp [hl],fun i y hy=>?_⟩
   by_cases hi:i<n
   ·rw [List.getElem?_append_left (by omega)] at hy;exact hp i y hy
   ·rw [List.getElem?_append_right (by omega)] at hy
    have h0:i - l.length=0:=by have:=(List.getElem?_eq_some_iff.1 hy).1;simp at this;omega
    rw [h0] at hy
    simp at hy
    subst hy
    obtain rfl:i=n:=by omega
    exact hx
end
end
section
open Go.ChangeShapes Go.WideShapes Go.RowKit
structure Ev.In (e:Ev):Prop where
 wf:e.Wf
 t:e.t.size≤maxLen
 c : ∀ c ∈ e.c,c.name.size≤maxLen
 v : ∀ x ∈ e.o ++ e.n,x.b.size≤maxLen
 ns : ∀ p ∈ e.ns,p.1.size≤maxLen∧p.2.size≤maxLen
section
variable {H:Type} {enc:TypeId×Value→H} {w:World} {base:Nat} {spare:Nat→Bool} {held:Bool}
end
end
section
open Go.RowKit Go.Shelf Go.Lib
attribute [local go_sem] Oper.semAt_some
theorem EvIn.types {n b m:Nat} {V V':World} {vc vk vu vo vn vs v:Value} {xs:List Value} {e:Ev} (h:EvIn n V vc vk vu vo vn vs e) (ho:V.ownsRow b 31 8 v m xs) (hg:V.grownBy V' v.ownBlock):EvIn n V' vc vk vu vo vn vs e:=by
 refine ⟨?_, ?_, ?_, ?_, ?_, ?_⟩
 ·obtain ⟨b,h1,h2⟩:=h.c;exact ⟨b,h1,zown_keep ho h2 (by decide) hg⟩
 ·obtain ⟨b,h1,h2⟩:=h.ky;exact ⟨b,h1,zown_keep ho h2 (by decide) hg⟩
 ·obtain ⟨b,m,us,h1,h2,h3,h4⟩:=h.u
  exact ⟨b,m,us,h1,h2,zown_keep ho h3 (by decide) hg,h4.1,fun j u l hu hl=>by obtain ⟨b',h5,h6⟩:=h4.2 j u l hu hl;exact ⟨b',h5,zown_keep ho h6 (by decide) hg⟩⟩
 ·obtain ⟨b,h1,h2⟩:=h.o;exact ⟨b,h1,zown_keep ho h2 (by decide) hg⟩
 ·obtain ⟨b,h1,h2⟩:=h.n;exact ⟨b,h1,zown_keep ho h2 (by decide) hg⟩
 ·obtain ⟨b,h1,h2⟩:=h.ns;exact ⟨b,h1,zown_keep ho h2 (by decide) hg⟩
def ERow (B:Nat) (V:World) (cs:List Value) (x:Ev):Prop:=∃ vc vk vu vo vn vs,cs=[.int .i64 x.k,.string x.t,vc,vk,vu,vo,vn,vs]∧EvIn B V vc vk vu vo vn vs x
def ERows (B:Nat) (V:World) (rows:List (List Value)) (l:List Ev):Prop:=rows.length=l.length ∧ ∀ (i:Nat) cs x,rows[i]? = some cs→l[i]? = some x→ERow B V cs x
theorem ERows.map {B:Nat} {V V':World} {rows:List (List Value)} {l:List Ev} (h:ERows B V rows l) (hk : ∀ vc vk vu vo vn vs x,EvIn B V vc vk vu vo vn vs x→EvIn B V' vc vk vu vo vn vs x):ERows B V' rows l :=
 ⟨h.1,fun i cs x hc hx=>by obtain ⟨vc,vk,vu,vo,vn,vs,h1,h2⟩:=h.2 i cs x hc hx;exact ⟨vc,vk,vu,vo,vn,vs,h1,hk _ _ _ _ _ _ _ h2⟩⟩
theorem ERows.snoc {B:Nat} {V:World} {rows:List (List Value)} {l:List Ev} (h:ERows B V rows l) {cs:List Value} {x:Ev} (hx:ERow B V cs x):ERows B V (rows ++ [cs]) (l ++ [x]):=by
 refine ⟨by rw [List.length_append,List.length_append,h.1];rfl,fun i cs' x' hc hx'=>?_⟩
 by_cases hi:i<rows.length
 ·rw [List.getElem?_append_left hi] at hc
  rw [List.getElem?_append_left (by rw [← h.1];exact hi)] at hx'
  exact h.2 i cs' x' hc hx'
 ·rw [List.getElem?_append_right (by omega)] at hc
  rw [List.getElem?_append_right (by have:=h.1;omega)] at hx'
  have h0:i - rows.length=0:=by have:=(List.getElem?_eq_some_iff.1 hc).1;simp at this;omega
  have h0':i - l.length=0:=by have:=h.1;omega
  rw [h0] at hc
  rw [h0'] at hx'
  simp at hc hx'
  subst hc hx'
  exact hx
theorem erows_at {B:Nat} {V:World} : ∀ {rows:List (List Value)} {l:List Ev},ERows B V rows l → ∀ (k j:Nat) cs,rows[k]? = some cs→j<8→rows.flatten[k * 8+j]? = cs[j]?
 | [],l,h,k,j,cs,hk,hj=>by simp at hk
 | r :: rows,[],h,k,j,cs,hk,hj=>by have:=h.1;simp at this
 | r :: rows,x :: l,h,0,j,cs,hk,hj=>by
   simp at hk
   subst hk
   obtain ⟨vc,vk,vu,vo,vn,vs,h1,-⟩:=h.2 0 r x rfl rfl
   rw [List.flatten_cons,Nat.zero_mul,Nat.zero_add,List.getElem?_append_left (by rw [h1];simp;omega)]
 | r :: rows,x :: l,h,k+1,j,cs,hk,hj=>by
   have hk:rows[k]? = some cs:=hk
   obtain ⟨vc,vk,vu,vo,vn,vs,h1,-⟩:=h.2 0 r x rfl rfl
   have hl:r.length=8:=by rw [h1];rfl
   rw [List.flatten_cons,List.getElem?_append_right (by omega),show (k+1) * 8+j - r.length=k * 8+j by omega]
   exact erows_at (B:=B) (V:=V) (l:=l) ⟨by have:=h.1;simp at this;exact this,fun i cs' x' hc hx=>h.2 (i+1) cs' x' hc hx⟩ k j cs hk hj
def EvsIn (B:Nat) (V:World) (v:Value) (l:List Ev):Prop:=∃ b rows,B≤b∧ERows B V rows l∧V.ownsRow b 31 8 v l.length rows.flatten
theorem EvsIn.at_ {B:Nat} {V:World} {v:Value} {l:List Ev} (h:EvsIn B V v l):EventsAt V v l:=by
 obtain ⟨b,rows,-,hr,ho⟩:=h
 rcases ho.2 with ⟨rfl,hl⟩ | ⟨g,cap,cur,rfl,hbg,hg,h2,h3,h4,h5⟩
 ·exact ⟨none,0,by rw [hl],by omega,by unfold maxLen;omega,fun h0=>by omega⟩
 ·refine ⟨_,cap,rfl,h2,by omega,fun h0=>⟨g,0,rfl,fun i x hx=>?_⟩⟩
  have hlt:=(List.getElem?_eq_some_iff.1 hx).1
  obtain ⟨cs,hcs⟩ : ∃ cs,rows[i]? = some cs:=⟨_,List.getElem?_eq_getElem (by rw [hr.1];exact hlt)⟩
  obtain ⟨vc,vk,vu,vo,vn,vs,h1,hin⟩:=hr.2 i cs x hcs hx
  have hc : ∀ j u,j<8→cs[j]? = some u→V.cell? ⟨g,0+i * 8+j,none⟩=some u:=fun j u hj hu=>by
   have:=ho.cells (g:=g) rfl (i * 8+j) u (by rw [erows_at hr i j cs hcs hj];exact hu)
   rw [Addr.add_lit] at this
   rw [Nat.add_assoc]
   exact this
  subst h1
  exact ⟨vc,vk,vu,vo,vn,vs,hin.at_,hc 0 _ (by omega) rfl,hc 1 _ (by omega) rfl,hc 2 _ (by omega) rfl,hc 3 _ (by omega) rfl,hc 4 _ (by omega) rfl,hc 5 _ (by omega) rfl,hc 6 _ (by omega) rfl,hc 7 _ (by omega) rfl⟩
theorem EvsIn.keep {B:Nat} {V V':World} {v:Value} {l:List Ev} (h:EvsIn B V v l) (ha:Above B V V'):EvsIn B V' v l:=by
 obtain ⟨b,rows,h1,h2,h3⟩:=h
 exact ⟨b,rows,h1,h2.map (fun _ _ _ _ _ _ _ h=>h.keep ha),own_above ha h3 h1⟩
theorem EvsIn.less {B m:Nat} {V:World} {v:Value} {l:List Ev} (h:EvsIn B V v l) (hm:m≤B):EvsIn m V v l:=by
 obtain ⟨b,rows,h1,h2,h3⟩:=h
 exact ⟨b,rows,Nat.le_trans hm h1,⟨h2.1,fun i cs x hc hx=>by obtain ⟨vc,vk,vu,vo,vn,vs,h4,h5⟩:=h2.2 i cs x hc hx;exact ⟨vc,vk,vu,vo,vn,vs,h4,h5.less hm⟩⟩,h3⟩
structure US (w V:World) (v:Value) (r:List UInt8):Prop where
 bel:Bel w V
 out:Blk V w.heap.size 48 #[v]
 err:Blk V (w.heap.size+1) 35 #[.int .i64 0]
 tape:TapeAt V (w.heap.size+2) r
theorem US.below {w V V':World} {v:Value} {r:List UInt8} (h:US w V v r) (hb:Bel V V'):US w V' v r:=⟨h.bel.then_ hb,h.out.below hb h.out.lt,h.err.below hb h.err.lt,h.tape.bel hb⟩
theorem US.grown {w V V':World} {v:Value} {r:List UInt8} (h:US w V v r) {row:Option Nat} (hg:V.grownBy V' row) (hr : ∀ j,row=some j→w.heap.size+2<j):US w V' v r :=
 ⟨Below.grown h.bel hg h.bel.size (fun j e=>by have:=hr j e;omega),h.out.grown hg (fun e=>by have:=hr _ e.symm;omega),h.err.grown hg (fun e=>by have:=hr _ e.symm;omega),h.tape.own hg hr⟩
theorem US.taped {w V V':World} {v:Value} {r r':List UInt8} (h:US w V v r) (hg:V.grownBy V' (some (w.heap.size+2))) (ht:TapeAt V' (w.heap.size+2) r'):US w V' v r' :=
 ⟨Below.grown h.bel hg h.bel.size (fun j e=>by cases e;omega),h.out.grown hg (fun e=>by have:=Option.some.inj e;omega),h.err.grown hg (fun e=>by have:=Option.some.inj e;omega),ht⟩
theorem US.set {w V:World} {A A':Option Addr} {n n' c c':Nat} {r:List UInt8} (h:US w V (.slice A n c) r):US w (V.setCell ⟨w.heap.size,0,none⟩ (.slice A' n' c')) (.slice A' n' c') r :=
 ⟨h.bel.setCell (Nat.le_refl _) _,h.out.set_ 0 _,h.err.far (by show w.heap.size+1 ≠ w.heap.size;omega) _,tape_ev h.tape h.out (fun i c e=>by
  match i with
  | 0=>cases e
  | i+1=>cases e) (by omega) 0 _⟩
theorem US.size {w V:World} {v:Value} {r:List UInt8} (h:US w V v r):w.heap.size+3≤V.heap.size:=h.tape.lt
end
section
open Go.RowKit Go.Shelf Go.Lib
attribute [local go_sem] Oper.semAt_some
structure Ev.Sz (e:Ev):Prop where
 t:e.t.size≤9223372036854775807
 c : ∀ c ∈ e.c,c.name.size≤9223372036854775807
 ns : ∀ p ∈ e.ns,p.1.size≤9223372036854775807∧p.2.size≤9223372036854775807
end
end Go.Proofs.YtnajjhgbombboaaGreatDoor
