/-
  Texts behind the statement: part 48.
-/
import Derived.Test.YtnajjhgbombboaaGreatDoorP16
import Derived.Test.YtnajjhgbombboaaGreatDoorP17
import Derived.Test.YtnajjhgbombboaaGreatDoorP46
set_option linter.unusedVariables false
set_option linter.unusedSimpArgs false
namespace Go.Proofs.YtnajjhgbombboaaGreatDoor
section
open Go.RowKit Go.Shelf Go.Lib
attribute [local go_sem] Oper.semAt_some
theorem BsAt.low {w:World} {v:Value} {s:List UInt8} (h:BsAt w v s):BsI w.heap.size w v s:=h
theorem bs_nil (B:Nat) (w:World):BsI B w (.slice none 0 0) []:=⟨none,0,rfl,Nat.le_refl _,Nat.zero_le _,Reads.none_⟩
def GivesN4 (B:Nat) (r:List UInt8) (bad:Bool) (w:World) (e:Ending) (w':World):Prop:=∃ (v':Value) (r':List UInt8) (bad':Bool) (n:Nat),e = .returned (.tuple #[.agg #[v',.bool bad'],.int .i64 n])∧BsI B w' v' r'∧r'.length≤r.length∧n≤1000∧Bel w w' ∧
 (∀ n0 rest,bad=false→n0≤1000→r=numB n0 ++ rest→n=n0∧r'=rest∧bad'=false)
set_option maxRecDepth 100000 in
set_option maxHeartbeats 4000000 in
theorem r4number_any (vb:Value) (r:List UInt8) (bad:Bool) (hr:r.length≤1000000) (B:Nat) (w:World) (hB:B≤w.heap.size) (hb:BsI B w vb r):Calls Tryz.prog 80 #[.agg #[vb,.bool bad]] w (GivesN4 B r bad w):=by
 have hb0:Bel w ((w.alloc (.cells #[vb,.bool bad] 134)).alloc (.cells #[.slice none 0 0,.bool false] 134)):=((Bel.refl w).alloc _).alloc _
 have HN:=Lib.hid (r2ReadNumber_any vb r hr _ ((hb.at_ hB).bel hb0))
 have HTR:Hid (∀ n0 rest,n0≤1000→r=numB n0 ++ rest→rdNum r=some (n0,1+needN n0)∧r.drop (1+needN n0)=rest):=fun n0 rest h0 h=>by
  rw [h]
  exact ⟨rdNum_enc n0 (by omega) rest,by rw [← numB_length,List.drop_left]⟩
 obtain ⟨Ab,cb,rfl,hn,hmx,hrd⟩:=hb
 have HRD:=Lib.hid hrd
 have HBM:=Lib.hid (And.intro hn hmx)
 clear hrd hb0
 cases hq:rdNum r with
 | none =>
   rw [hq] at HN
   unfold numV at HN
   have HNO:Hid (∀ n0 rest,n0≤1000→r=numB n0 ++ rest→False):=fun n0 rest h0 h=>by have:=(HTR.out n0 rest h0 h).1;rw [hq] at this;cases this
   clear hq HTR
   cases bad
   all_goals
    go_enter Tryz.func80,Tryz.ntmps80
    go_wp2_with fail
    refine HN.out.mono ?_
    rintro e w' ⟨rfl,rfl⟩
    go_wp2
    refine bodyPost_ret (v:=.tuple #[.agg #[.slice none 0 0,.bool true],.int .i64 0]) (by simp [results,Tryz.results80,go_sem]) rfl ⟨.slice none 0 0,[],true,0,rfl,bs_nil _ _,Nat.zero_le _,Nat.zero_le _,by (repeat (first | exact Below.refl _ _ | assumption | exact Bel.refl _ | refine Bel.alloc ?_ _ | refine Bel.drew ?_ | refine Bel.drewN ?_ _ | refine Bel.then_ ?_ (by assumption) | refine Bel.setCell ?_ (by first | (simp;done) | (simp;omega)) _)),fun n0 rest _ h0 h=>(HNO.out n0 rest h0 h).elim⟩
 | some q =>
   obtain ⟨n,m⟩:=q
   rw [hq] at HN
   unfold numV at HN
   obtain ⟨hm1,hml,-,-⟩:=rdNum_le hq
   have HTS:Hid (∀ n0 rest,n0≤1000→r=numB n0 ++ rest→n=n0∧r.drop m=rest):=fun n0 rest h0 h=>by
    obtain ⟨h1,h2⟩:=HTR.out n0 rest h0 h
    rw [hq] at h1
    injection h1 with h1
    injection h1 with h1 h3
    subst h1 h3
    exact ⟨rfl,h2⟩
   clear hq HTR
   cases bad with
   | true =>
     go_enter Tryz.func80,Tryz.ntmps80
     go_wp2_with fail
     refine HN.out.mono ?_
     rintro e w' ⟨rfl,rfl⟩
     go_wp2
     refine bodyPost_ret (v:=.tuple #[.agg #[.slice none 0 0,.bool true],.int .i64 0]) (by simp [results,Tryz.results80,go_sem]) rfl ⟨.slice none 0 0,[],true,0,rfl,bs_nil _ _,Nat.zero_le _,Nat.zero_le _,by (repeat (first | exact Below.refl _ _ | assumption | exact Bel.refl _ | refine Bel.alloc ?_ _ | refine Bel.drew ?_ | refine Bel.drewN ?_ _ | refine Bel.then_ ?_ (by assumption) | refine Bel.setCell ?_ (by first | (simp;done) | (simp;omega)) _)),fun n0 rest hb _ _=>by cases hb⟩
   | false =>
     by_cases hn1:n≤1000
     case neg =>
      have hnI:(1000:Int)<n:=by omega
      go_enter Tryz.func80,Tryz.ntmps80
      go_wp2_with fail
      refine HN.out.mono ?_
      rintro e w' ⟨rfl,rfl⟩
      go_wp2
      refine bodyPost_ret (v:=.tuple #[.agg #[.slice none 0 0,.bool true],.int .i64 0]) (by simp [results,Tryz.results80,go_sem]) rfl ⟨.slice none 0 0,[],true,0,rfl,bs_nil _ _,Nat.zero_le _,Nat.zero_le _,by (repeat (first | exact Below.refl _ _ | assumption | exact Bel.refl _ | refine Bel.alloc ?_ _ | refine Bel.drew ?_ | refine Bel.drewN ?_ _ | refine Bel.then_ ?_ (by assumption) | refine Bel.setCell ?_ (by first | (simp;done) | (simp;omega)) _)),fun n0 rest _ h0 h=>absurd (HTS.out n0 rest h0 h).1 (by omega)⟩
     case pos =>
      have hnb:decide ((1000:Int)<n)=false:=by simp;omega
      have hnc:decide (1000<n)=false:=by simp;omega
      have hcv:IntKind.i64.wrap (n:Int)=(n:Int):=by simp only [IntKind.wrap,IntKind.bits,IntKind.signed];simp;omega
      have hmI:(m:Int)≤r.length:=by omega
      have hbI:(r.length:Int)≤cb:=by have:=HBM.out.1;omega
      have hbJ:(cb:Int)≤9223372036854775807:=by have:=HBM.out.2;unfold maxLen at this;omega
      obtain ⟨ad,rfl,-⟩:=HRD.out.2 (by omega)
      have hdl:(r.drop m).length=r.length - m:=List.length_drop
      by_cases hmc:cb=m
      ·obtain rfl:m=r.length:=by omega
       subst hmc
       have HTV:Hid (∀ n0 rest,n0≤1000→r=numB n0 ++ rest→n=n0∧([]:List UInt8)=rest):=fun n0 rest h0 h=>by
        have:=HTS.out n0 rest h0 h
        rw [List.drop_length] at this
        exact this
       clear hdl HTS hml
       go_enter Tryz.func80,Tryz.ntmps80
       go_wp2_with fail
       refine HN.out.mono ?_
       rintro e w' ⟨rfl,rfl⟩
       go_wp2
       refine bodyPost_ret (v:=.tuple #[.agg #[.slice (some ad) 0 0,.bool false],.int .i64 n]) (by simp [results,Tryz.results80,go_sem]) rfl ⟨.slice (some ad) 0 0,[],false,n,rfl,⟨some ad,0,rfl,Nat.le_refl _,Nat.zero_le _,by simp,fun h=>by simp at h⟩,Nat.zero_le _,hn1,by (repeat (first | exact Below.refl _ _ | assumption | exact Bel.refl _ | refine Bel.alloc ?_ _ | refine Bel.drew ?_ | refine Bel.drewN ?_ _ | refine Bel.then_ ?_ (by assumption) | refine Bel.setCell ?_ (by first | (simp;done) | (simp;omega)) _)),fun n0 rest _ h0 h=>⟨(HTV.out n0 rest h0 h).1,(HTV.out n0 rest h0 h).2,rfl⟩⟩
      ·have hcut:=HRD.out.cut (k:=m) hml HBM.out.1
       rw [Nat.mul_one,← List.map_drop,if_neg hmc,← hdl] at hcut
       have hI4:((r.length:Int) - m).toNat=r.length - m:=by omega
       have hI5:((cb:Int) - m).toNat=cb - m:=by omega
       have HCUT:=Lib.hid hcut
       have HDL:=Lib.hid hdl
       clear hcut hdl
       go_enter Tryz.func80,Tryz.ntmps80
       go_wp2_with fail
       refine HN.out.mono ?_
       rintro e w' ⟨rfl,rfl⟩
       go_wp2
       refine bodyPost_ret (v:=.tuple #[.agg #[.slice (some (ad.add m)) (r.length - m) (cb - m),.bool false],.int .i64 n]) (by simp [results,Tryz.results80,go_sem]) rfl ⟨.slice (some (ad.add m)) (r.length - m) (cb - m),r.drop m,false,n,rfl,?_,by rw [HDL.out];omega,hn1,by (repeat (first | exact Below.refl _ _ | assumption | exact Bel.refl _ | refine Bel.alloc ?_ _ | refine Bel.drew ?_ | refine Bel.drewN ?_ _ | refine Bel.then_ ?_ (by assumption) | refine Bel.setCell ?_ (by first | (simp;done) | (simp;omega)) _)),fun n0 rest _ h0 h=>⟨(HTS.out n0 rest h0 h).1,(HTS.out n0 rest h0 h).2,rfl⟩⟩
       rw [← HDL.out]
       exact ⟨_,_,rfl,by rw [HDL.out];have:=HBM.out.1;omega,by have:=HBM.out.2;omega,HCUT.out.keep fun p hp=>Below.cell (show Bel w _ from by (repeat (first | exact Below.refl _ _ | assumption | exact Bel.refl _ | refine Bel.alloc ?_ _ | refine Bel.drew ?_ | refine Bel.drewN ?_ _ | refine Bel.then_ ?_ (by assumption) | refine Bel.setCell ?_ (by first | (simp;done) | (simp;omega)) _))) (by omega)⟩
def GivesL4 (B:Nat) (r:List UInt8) (bad:Bool) (w:World) (e:Ending) (w':World):Prop:=∃ (v':Value) (r':List UInt8) (bad':Bool) (l:List Int) (A:Option Addr) (c:Nat),e = .returned (.tuple #[.agg #[v',.bool bad'],.slice A l.length c])∧BsI B w' v' r'∧r'.length≤r.length∧l.length≤9∧w'.ownsRow w.heap.size 3 1 (.slice A l.length c) l.length (l.map fun x=>.int .i64 x)∧Bel w w' ∧
 (∀ l0 rest,bad=false→l0.length≤4→(∀ x ∈ l0,0≤x∧x<8)→r=encList l0 ++ rest→l=l0∧r'=rest∧bad'=false)
set_option maxRecDepth 100000 in
set_option maxHeartbeats 4000000 in
theorem r4places_any (vb:Value) (r:List UInt8) (bad:Bool) (hr:r.length≤1000000) (B:Nat) (w:World) (hB:B≤w.heap.size) (hb:BsI B w vb r):Calls Tryz.prog 81 #[.agg #[vb,.bool bad]] w (GivesL4 B r bad w):=by
 obtain ⟨i0,hi0,hz0,hz1,hz2⟩:=info_parts zinfoI
 have hp1:(0:Nat)<1:=by omega
 obtain ⟨W0,hW0⟩ : ∃ V,V=(w.alloc (.cells #[vb,.bool bad] 134)).alloc (.cells #[.slice none 0 0,.bool false] 134):=⟨_,rfl⟩
 have hb0:Bel w W0:=by rw [hW0];exact ((Bel.refl w).alloc _).alloc _
 have k1:Blk W0 w.heap.size 134 #[vb,.bool bad]:=by rw [hW0];exact (Blk.new w _ _).alloc _
 have k2:Blk W0 (w.heap.size+1) 134 #[.slice none 0 0,.bool false]:=by
  rw [hW0]
  have:=Blk.new (w.alloc (.cells #[vb,.bool bad] 134)) 134 #[.slice none 0 0,.bool false]
  simpa using this
 have HN0:=Lib.hid (r4number_any vb r bad hr B W0 (Nat.le_trans hB hb0.size) (hb.bel hb0 hB))
 have HB0:=Lib.hid hb0
 have K1:=Lib.hid k1
 have K2:=Lib.hid k2
 have c0:=k1.cell 0
 have c1:=k1.cell 1
 simp only [List.getElem?_toArray,List.getElem?_cons_succ,List.getElem?_cons_zero] at c0 c1
 clear k1 k2 hb0 hb
 go_enter Tryz.func81,Tryz.ntmps81
 go_wp2_with fail
 rw [← hW0]
 clear hW0
 refine HN0.out.mono ?_
 rintro e w1 ⟨v1,r1,bad1,n,rfl,hv1,hr1,hn1,hb1,htr⟩
 obtain ⟨A1,cc1,hv1e,-⟩:=id hv1
 subst hv1e
 have J1:=Lib.hid (K1.out.grown (hb1.grown none) (fun e=>by cases e))
 have J2:=Lib.hid (K2.out.grown (hb1.grown none) (fun e=>by cases e))
 have HV1:=Lib.hid hv1
 have HTR:=Lib.hid htr
 have HB1:=Lib.hid (HB0.out.then_ hb1)
 have d0:=J1.out.cell 0
 have d1:=J1.out.cell 1
 have f0:=J1.out.frozen 0
 have f1:=J1.out.frozen 1
 simp only [List.getElem?_toArray,List.getElem?_cons_succ,List.getElem?_cons_zero] at d0 d1
 have hnI:(n:Int)≤1000:=by omega
 have hsz1:w.heap.size+2≤w1.heap.size:=J2.out.lt
 clear hv1 htr hb1 c0 c1 HN0 K1 K2 HB0
 obtain ⟨W2,hW2⟩ : ∃ V,V=(w1.setCell ⟨w.heap.size,0,none⟩ (.slice A1 r1.length cc1)).setCell ⟨w.heap.size,1,none⟩ (.bool bad1):=⟨_,rfl⟩
 have L1:Hid (Blk W2 w.heap.size 134 #[.slice A1 r1.length cc1,.bool bad1]):=by show Blk _ _ _ _;rw [hW2];exact (J1.out.set_ 0 (.slice A1 r1.length cc1)).set_ 1 (.bool bad1)
 have L2:Hid (Blk W2 (w.heap.size+1) 134 #[.slice none 0 0,.bool false]):=by show Blk _ _ _ _;rw [hW2];exact (J2.out.far (by simp) _).far (by simp) _
 have HB2:Hid (Bel w W2):=by show Bel w W2;rw [hW2];exact (HB1.out.setCell (Nat.le_refl _) _).setCell (Nat.le_refl _) _
 have HV2:Hid (BsI B W2 (.slice A1 r1.length cc1) r1):=by
  show BsI B W2 (.slice A1 r1.length cc1) r1
  rw [hW2]
  exact HV1.out.keep fun p hp=>(World.cell?_setCell_other _ _ _ _ (fun e=>by rw [← e] at hp;dsimp only at hp;omega)).trans (World.cell?_setCell_other _ _ _ _ (fun e=>by rw [← e] at hp;dsimp only at hp;omega))
 go_wp2_with fail
 rw [← hW2]
 clear hW2 d0 d1 f0 f1 J1 J2 HV1 HB1
 go_loopw [5,6] (fun v i wr=>∃ (k:Nat) (L:List Int) (vr:Value) (r':List UInt8) (bad':Bool) (A:Option Addr) (c:Nat),k≤n∧k≤9∧v = .slice A k c∧i = .int .i64 k∧r'.length≤r.length∧L.length=k∧Hid (Bel w wr∧Blk wr w.heap.size 134 #[vr,.bool bad']∧Blk wr (w.heap.size+1) 134 #[.slice none 0 0,.bool false])∧Hid (BsI B wr vr r')∧Hid (wr.ownsRow (w.heap.size+2) 3 1 (.slice A k c) k (L.map fun x=>.int .i64 x)) ∧
  Hid (∀ l0 rest,bad=false→l0.length≤4→(∀ x ∈ l0,0≤x∧x<8)→r=encList l0 ++ rest→n=l0.length∧L=l0.take k∧r'=encInts (l0.drop k) ++ rest∧bad'=false)) (fun v i _=>9 - (intOf i).toNat)
 case atStart =>
  refine ⟨0,[],_,r1,bad1,none,0,Nat.zero_le _,Nat.zero_le _,rfl,rfl,hr1,rfl,⟨HB2.out,L1.out,L2.out⟩,HV2.out,World.ownsRow_nil _ _ _ _,fun l0 rest hb hl hs h=>?_⟩
  obtain ⟨h1,h2,h3⟩:=HTR.out l0.length (encInts l0 ++ rest) hb (by omega) (by rw [h];unfold encList;rw [List.append_assoc])
  exact ⟨h1,rfl,h2,h3⟩
 case round =>
  obtain ⟨k,L,vr,r',bad',A,c,hkn,hk9,rfl,rfl,hr',hL,HP,HV,HO,HT⟩:=hrel
  obtain ⟨Ar,cr,hvre,-⟩:=id HV.out
  subst hvre
  have c0:=HP.out.2.1.cell 0
  have c1:=HP.out.2.1.cell 1
  simp only [List.getElem?_toArray,List.getElem?_cons_succ,List.getElem?_cons_zero] at c0 c1
  have hszr:w.heap.size+2≤wr.heap.size:=HP.out.2.2.lt
  by_cases hlt:k<n∧k<9
  ·have hkI:(k:Int)<n:=by omega
   have hkJ:(k:Int)<9:=by omega
   have HN:=Lib.hid (r4number_any _ r' bad' (by omega) B wr (by omega) HV.out)
   have HLT:=Lib.hid hlt
   clear hlt
   go_wp2_with fail
   refine HN.out.mono ?_
   rintro e w3 ⟨v3,r3,bad3,n3,rfl,hv3,hr3,hn3,hb3,htr3⟩
   obtain ⟨A3,cc3,hv3e,-⟩:=id hv3
   subst hv3e
   have J1:=Lib.hid (HP.out.2.1.grown (hb3.grown none) (fun e=>by cases e))
   have J2:=Lib.hid (HP.out.2.2.grown (hb3.grown none) (fun e=>by cases e))
   have d0:=J1.out.cell 0
   have d1:=J1.out.cell 1
   have f0:=J1.out.frozen 0
   have f1:=J1.out.frozen 1
   simp only [List.getElem?_toArray,List.getElem?_cons_succ,List.getElem?_cons_zero] at d0 d1
   obtain ⟨W4,hW4⟩ : ∃ V,V=(w3.setCell ⟨w.heap.size,0,none⟩ (.slice A3 r3.length cc3)).setCell ⟨w.heap.size,1,none⟩ (.bool bad3):=⟨_,rfl⟩
   have L1:Blk W4 w.heap.size 134 #[.slice A3 r3.length cc3,.bool bad3]:=by rw [hW4];exact (J1.out.set_ 0 (.slice A3 r3.length cc3)).set_ 1 (.bool bad3)
   have L2:Blk W4 (w.heap.size+1) 134 #[.slice none 0 0,.bool false]:=by rw [hW4];exact (J2.out.far (by simp) _).far (by simp) _
   have HB4:Bel w W4:=by rw [hW4];exact ((HP.out.1.then_ hb3).setCell (Nat.le_refl _) _).setCell (Nat.le_refl _) _
   have HV4:BsI B W4 (.slice A3 r3.length cc3) r3:=by
    rw [hW4]
    exact hv3.keep fun p hp=>(World.cell?_setCell_other _ _ _ _ (fun e=>by rw [← e] at hp;dsimp only at hp;omega)).trans (World.cell?_setCell_other _ _ _ _ (fun e=>by rw [← e] at hp;dsimp only at hp;omega))
   have HO4:W4.ownsRow (w.heap.size+2) 3 1 (.slice A k c) k (L.map fun x=>.int .i64 x):=by
    rw [hW4]
    exact own_set4 (own_set4 (ownsRow_bel HO.out hb3) (by dsimp only;omega) _) (by dsimp only;omega) _
   have hs4:W4.heap.size=w3.heap.size:=by rw [hW4];simp
   have hal:Bel W4 (W4.alloc (.cells #[.int .i64 (n3:Int)] 3)):=(Bel.refl W4).alloc _
   have OW:=Lib.hid (ownsRow_bel HO4 hal)
   have HX:Hid (Reads (W4.alloc (.cells #[.int .i64 (n3:Int)] 3)) (W4.alloc (.cells #[.int .i64 (n3:Int)] 3)).heap.size 1 (some ⟨w3.heap.size,0,none⟩) 1 [.int .i64 (n3:Int)]):=by
    have h:Reads (W4.alloc (.cells #[.int .i64 (n3:Int)] 3)) (W4.alloc (.cells #[.int .i64 (n3:Int)] 3)).heap.size 1 (some ⟨W4.heap.size,0,none⟩) 1 [.int .i64 (n3:Int)]:=reads_one (by go_simp)
    rw [hs4] at h
    exact h
   have hone1 : ∀ u ∈ [(.int .i64 (n3:Int):Value)],u.oneCell'=true:=by simp [Value.oneCell']
   have h63:k+1≤maxLen:=by unfold maxLen;omega
   have hby:(k+1) * 8≤140737488355328:=by omega
   have HP5:=Lib.hid (And.intro (HB4.then_ hal) (And.intro (L1.grown (hal.grown none) (fun e=>by cases e)) (L2.grown (hal.grown none) (fun e=>by cases e))))
   have HV5:=Lib.hid (HV4.bel hal (Nat.le_trans hB HB4.size))
   have HBA:Hid (w.heap.size+2≤(W4.alloc (.cells #[.int .i64 (n3:Int)] 3)).heap.size):=by show _≤_;simp;have:=L2.lt;omega
   have HMP:Hid ((L ++ [(n3:Int)]).map (fun x=>Value.int .i64 x)=(L.map fun x=>.int .i64 x) ++ [.int .i64 (n3:Int)]):=List.map_append
   have HT5:Hid (∀ l0 rest,bad=false→l0.length≤4→(∀ x ∈ l0,0≤x∧x<8)→r=encList l0 ++ rest→n=l0.length∧L ++ [(n3:Int)]=l0.take (k+1)∧r3=encInts (l0.drop (k+1)) ++ rest∧bad3=false):=fun l0 rest hb hl hs h=>by
    obtain ⟨t1,t2,t3,t4⟩:=HT.out l0 rest hb hl hs h
    have hk0:k<l0.length:=by have:=HLT.out.1;omega
    have hx:=hs l0[k] (List.getElem_mem hk0)
    rw [List.drop_eq_getElem_cons hk0] at t3
    have:=htr3 (l0[k]).toNat (encInts (l0.drop (k+1)) ++ rest) t4 (by omega) (by rw [t3];show numB _ ++ encInts _ ++ rest=_;rw [List.append_assoc])
    refine ⟨t1,?_,this.2.1,this.2.2⟩
    rw [List.take_add_one,List.getElem?_eq_getElem hk0,t2,this.1,Int.toNat_of_nonneg hx.1]
    rfl
   clear hv3 hb3 htr3 L1 L2 HB4 HV4 HO4 hal J1 J2 HP HV HO HT HN hs4
   subst hW4
   go_wp2_with (at_builtin;refine wpList_append_any _ rfl (.tmp 27) (.tmp 29) _ rfl (w.heap.size+2) 3 i0 _ 1 8 Tryz.underlying24 hi0 hz0 hz1 hz2 rfl hp1 (.slice A k c) k _ (by rfl) OW.out _ (some ⟨w3.heap.size,0,none⟩) 1 1 _ (by rfl) HX.out hone1 h63 hby HBA.out ?_;intro v9 w9 hown9 hg9 hat9;obtain ⟨A9,c9,rfl⟩:=row_any hown9;have hlt9:=fun j e=>(OW.out.lt j e).1;have HP9:Hid (Bel w w9∧Blk w9 w.heap.size 134 #[.slice A3 r3.length cc3,.bool bad3]∧Blk w9 (w.heap.size+1) 134 #[.slice none 0 0,.bool false]):=⟨Below.grown HP5.out.1 hg9 HP5.out.1.size (fun j e=>by have:=hlt9 j e;omega),HP5.out.2.1.grown hg9 (fun e=>by have:=hlt9 _ e.symm;omega),HP5.out.2.2.grown hg9 (fun e=>by have:=hlt9 _ e.symm;omega)⟩;have HV9:Hid (BsI B w9 (.slice A3 r3.length cc3) r3):=HV5.out.keep (fun p hp=>World.cell?_of_block (hg9.block p.block (by have:=HBA.out;omega) (fun e=>by have:=hlt9 _ e.symm;omega)));have HO9:Hid (w9.ownsRow (w.heap.size+2) 3 1 (.slice A9 (k+1) c9) (k+1) ((L ++ [(n3:Int)]).map fun x=>.int .i64 x)):=(by rw [HMP.out];exact hown9);clear hown9 hg9 hat9 hlt9)
   go_roundw
   case rel=>exact ⟨k+1,L ++ [(n3:Int)],_,r3,bad3,A9,c9,by have:=HLT.out;omega,by have:=HLT.out;omega,rfl,by go_num,by omega,by rw [List.length_append,hL];rfl,HP9.out,HV9.out,HO9.out,HT5.out⟩
   case measure=>have:=HLT.out;simp [intOf];omega
  ·have HEND:Hid (∀ l0 rest,bad=false→l0.length≤4→(∀ x ∈ l0,0≤x∧x<8)→r=encList l0 ++ rest→L=l0∧r'=rest∧bad'=false):=fun l0 rest hb hl hs h=>by
    obtain ⟨t1,t2,t3,t4⟩:=HT.out l0 rest hb hl hs h
    have hk:k=l0.length:=by omega
    rw [hk,List.take_length] at t2
    rw [hk,List.drop_length] at t3
    exact ⟨t2,t3,t4⟩
   have g0:=HP.out.2.2.cell 0
   have g1:=HP.out.2.2.cell 1
   have f0:=HP.out.2.2.frozen 0
   have f1:=HP.out.2.2.frozen 1
   simp only [List.getElem?_toArray,List.getElem?_cons_succ,List.getElem?_cons_zero] at g0 g1
   have HFIN:Hid ((fun V=>BsI B V (.slice Ar r'.length cr) r'∧V.ownsRow w.heap.size 3 1 (.slice A k c) k (L.map fun x=>.int .i64 x)∧Bel w V∧V.cell? ⟨w.heap.size+1,0,none⟩=some (.slice Ar r'.length cr)∧V.cell? ⟨w.heap.size+1,1,none⟩=some (.bool bad')) ((wr.setCell ⟨w.heap.size+1,0,none⟩ (.slice Ar r'.length cr)).setCell ⟨w.heap.size+1,1,none⟩ (.bool bad'))):=by
    have hO:=own_set4 (own_set4 HO.out (p:=⟨w.heap.size+1,0,none⟩) (by dsimp only;omega) (.slice Ar r'.length cr)) (p:=⟨w.heap.size+1,1,none⟩) (by dsimp only;omega) (.bool bad')
    refine ⟨HV.out.keep fun p hp=>(World.cell?_setCell_other _ _ _ _ (fun e=>by rw [← e] at hp;dsimp only at hp;omega)).trans (World.cell?_setCell_other _ _ _ _ (fun e=>by rw [← e] at hp;dsimp only at hp;omega)),⟨hO.1,?_⟩,(HP.out.1.setCell (Nat.le_succ _) _).setCell (Nat.le_succ _) _,?_,?_⟩
    ·rcases hO.2 with h2 | ⟨g,cap,cur,hv,hgb,q⟩
     ·exact .inl h2
     ·exact .inr ⟨g,cap,cur,hv,by omega,q⟩
    ·have hK:=(HP.out.2.2.set_ 0 (.slice Ar r'.length cr)).set_ 1 (.bool bad')
     exact (hK.cell 0).trans rfl
    ·have hK:=(HP.out.2.2.set_ 0 (.slice Ar r'.length cr)).set_ 1 (.bool bad')
     exact (hK.cell 1).trans rfl
   have HK9:=Lib.hid hk9
   have hcond : ¬ (k<n∧k<9):=hlt
   clear HT HP HV HO
   by_cases hkn2:k<n
   ·obtain rfl:k=9:=by omega
    have hnI2:(9:Int)<n:=by omega
    clear hlt hcond hkn
    go_wp2
    obtain ⟨q1,q2,q3,q4,q5⟩:=HFIN.out
    refine bodyPost_ret (v:=.tuple #[.agg #[.slice Ar r'.length cr,.bool bad'],.slice A 9 c]) (by simp [results,Tryz.results81,go_sem,q4,q5]) rfl ⟨_,r',bad',L,A,c,by rw [hL],q1,hr',by omega,by rw [hL];exact q2,q3,HEND.out⟩
   ·obtain rfl:k=n:=by omega
    clear hlt hcond hkn hkn2
    go_wp2
    obtain ⟨q1,q2,q3,q4,q5⟩:=HFIN.out
    refine bodyPost_ret (v:=.tuple #[.agg #[.slice Ar r'.length cr,.bool bad'],.slice A k c]) (by simp [results,Tryz.results81,go_sem,q4,q5]) rfl ⟨_,r',bad',L,A,c,by rw [hL],q1,hr',by omega,by rw [hL];exact q2,q3,HEND.out⟩
end
section
open Go.RowKit Go.Lib
set_option maxRecDepth 100000 in
set_option maxHeartbeats 2000000 in
theorem r2ReadText_any (v:Value) (s:List UInt8) (hs:s.length≤1000000) (w:World) (h:BsAt w v s):Calls Tryz.prog 78 #[v] w fun e w'=>e = .returned (textV (rdText s))∧w=w':=by
 have HN:=Lib.hid (r2ReadNumber_any v s hs w h)
 have HB:=Lib.hid h
 obtain ⟨R,hR⟩ : ∃ R,R=rdText s:=⟨_,rfl⟩
 rw [← hR]
 have HR:=Lib.hid hR
 clear hR
 unfold rdText at HR
 obtain ⟨A,c,rfl,hc,hcm,-⟩:=h
 have hlI:(s.length:Int)≤1000000:=by omega
 cases hrd:rdNum s with
 | none =>
   rw [hrd] at HN HR
   have hf:R=none:=HR.out
   unfold numV at HN
   clear hrd hc hcm hs
   go_enter Tryz.func78,Tryz.ntmps78
   go_wp2_with fail
   refine HN.out.mono ?_
   rintro e w1 ⟨rfl,rfl⟩
   go_wp2
   go_ret3
   exact ⟨by first | rfl | (rw [hf];rfl),rfl⟩
 | some p =>
   obtain ⟨n,m⟩:=p
   obtain ⟨hm1,hml,hm9,hn64⟩:=rdNum_le hrd
   rw [hrd] at HN HR
   unfold numV at HN
   have hmI:(m:Int)≤s.length:=by omega
   have hm1I:(1:Int)≤m:=by omega
   have hsub:(s.length:Int) - m=((s.length - m:Nat):Int):=by omega
   have hw64:IntKind.u64.wrap ((s.length:Int) - m)=((s.length - m:Nat):Int):=by rw [hsub];exact wrap_u64 _ (by omega)
   have hnI:(n:Int)≤18446744073709551615:=by omega
   by_cases hgt:s.length - m<n
   ·have hf:R=none:=by rw [HR.out];exact if_pos hgt
    have hgI:((s.length:Int) - m)<n:=by omega
    clear hrd hsub hn64 hc hcm hs
    go_enter Tryz.func78,Tryz.ntmps78
    go_wp2_with fail
    refine HN.out.mono ?_
    rintro e w1 ⟨rfl,rfl⟩
    go_wp2
    go_ret3
    exact ⟨by first | rfl | (rw [hf];rfl),rfl⟩
   ·have hf:R=some ((s.drop m).take n,m+n):=by rw [HR.out];exact if_neg hgt
    have hgb:decide (s.length - m<n)=false:=by simp;omega
    have hgI:(n:Int)≤(s.length:Int) - m:=by omega
    have hne:s ≠ []:=fun e=>by rw [e] at hml;simp at hml;omega
    obtain ⟨hd,t,rfl⟩ : ∃ hd t,s=hd :: t:=by cases s with
     | nil=>exact absurd rfl hne
     | cons a b=>exact ⟨a,b,rfl⟩
    obtain ⟨ad,rfl,p0,-,-⟩:=HB.out.head
    obtain ⟨b,off,spot⟩:=ad
    obtain rfl:spot=none:=World.cell?_spot p0
    have hrd2:=HB.out.cut m n (by omega)
    obtain ⟨x,hx⟩ : ∃ x,x=((hd :: t).drop m).take n:=⟨_,rfl⟩
    rw [← hx] at hrd2 hf
    have hxl:x.length=n:=by rw [hx,List.length_take,List.length_drop];omega
    have HCV:=Lib.hid (conv_reads (c - m) (s:=x) (by rw [hxl];exact hrd2))
    rw [hxl] at HCV
    have hnk:m+n≤(hd :: t).length:=by omega
    have HXL:=Lib.hid hxl
    clear hrd hsub hn64 hs hne hrd2 hx hxl p0 hgt HR
    have HF:=Lib.hid hf
    simp only [List.length_cons] at *
    have hnkI:(m:Int)+n≤(t.length:Int)+1:=by omega
    have htn:((m:Int)+n).toNat=m+n:=by omega
    have htm:((m:Int)+n - m).toNat=n:=by omega
    have hcL:(t.length:Int)+1≤c:=by omega
    have hcL2:(m:Int)+n≤c:=by omega
    have hlJ:(t.length:Int)≤999999:=by omega
    clear hf hw64 hnI hlI
    by_cases hn0:n=0
    ·subst hn0
     have hx0:x=[]:=List.eq_nil_of_length_eq_zero HXL.out
     subst hx0
     have hcv:=fun (V:World) (A':Option Addr) (c':Nat)=>conv_reads (w:=V) (B:=0) (A:=A') (s:=[]) c' ⟨rfl,fun h=>by simp at h⟩
     simp only [List.length_nil] at hcv
     clear HCV htm htn hnkI hcL2 hgI hgb
     by_cases hcm1:c=m
     ·subst hcm1
      go_enter Tryz.func78,Tryz.ntmps78
      go_wp2_with fail
      refine HN.out.mono ?_
      rintro e w1 ⟨rfl,rfl⟩
      go_wp2
      go_ret3
      exact ⟨by rw [HF.out];unfold textV;simp,rfl⟩
     ·go_enter Tryz.func78,Tryz.ntmps78
      go_wp2_with fail
      refine HN.out.mono ?_
      rintro e w1 ⟨rfl,rfl⟩
      go_wp2
      go_ret3
      exact ⟨by rw [HF.out];unfold textV;simp,rfl⟩
    ·have hnp:(0:Int)<n:=by omega
     have hcm1 : ¬ c=m:=by omega
     have hcm3:((c:Int) - m).toNat=c - m:=by omega
     go_enter Tryz.func78,Tryz.ntmps78
     go_wp2_with fail
     refine HN.out.mono ?_
     rintro e w1 ⟨rfl,rfl⟩
     have hcv:=HCV.out
     go_wp2
     go_ret3
     exact ⟨by rw [HF.out];unfold textV;simp,rfl⟩
end
end Go.Proofs.YtnajjhgbombboaaGreatDoor
