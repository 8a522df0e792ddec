/-
  Texts behind the statement: part 50.
-/
import Derived.Test.YtnajjhgbombboaaGreatDoorP30
import Derived.Test.YtnajjhgbombboaaGreatDoorP47
import Derived.Test.YtnajjhgbombboaaGreatDoorP48
import Derived.Defers
import Derived.Recover
set_option linter.unusedVariables false
set_option linter.unusedSimpArgs false
namespace Go.Proofs.YtnajjhgbombboaaGreatDoor
section
open Go.RowKit
theorem decE_some {s:List UInt8} {e:Ev} (h:decE s=some e):rightE e=true∧encE e=s:=by
 unfold decE at h
 cases hp:pE s with
 | none=>rw [hp] at h;cases h
 | some q =>
   obtain ⟨e',r⟩:=q
   rw [hp] at h
   dsimp only at h
   by_cases hc:rightE e'=true∧encE e'=s
   ·rw [if_pos hc] at h
    cases h
    exact hc
   ·rw [if_neg hc] at h;cases h
end
section
open Go.RowKit Go.Shelf Go.Lib
attribute [local go_sem] Oper.semAt_some
theorem decE_wf {s:List UInt8} {e:Ev} (h:decE s=some e):e.Wf:=by
 unfold decE pE at h
 cases h1:pNum 7 s with
 | none=>rw [h1] at h;cases h
 | some q =>
   obtain ⟨k,r⟩:=q
   rw [h1] at h
   dsimp only at h
   cases h2:readPs (partsOf k) (evOf k) r with
   | none=>rw [h2] at h;cases h
   | some q2 =>
     obtain ⟨e',r'⟩:=q2
     rw [h2] at h
     dsimp only at h
     split at h
     ·cases h
      exact readPs_wf _ _ _ _ _ h2 (evOf_wf _)
     ·cases h
end
section
open Go.RowKit Go.Shelf Go.Lib
attribute [local go_sem] Oper.semAt_some
theorem vals_set {n:Nat} {w:World} {v:Value} {l:List Val} (h:ValsIn (n+1) w v l) (i:Nat) (u:Value):ValsIn (n+1) (w.setCell ⟨n,i,none⟩ u) v l:=by
 obtain ⟨b,h1,h2⟩:=h
 exact ⟨b,h1,own_above (above_set (gx:=n) (n:=n+1) (by omega)) h2 h1⟩
def GivesR8 (v:Value) (q:List UInt8×Bool) (U w:World) (e:Ending) (w':World):Prop:=∃ vB,e = .returned (.tuple #[.agg #[vB,.bool q.2],v])∧BsAt U vB q.1∧Bel w w'
theorem bs_nil8 (w:World):BsAt w (.slice none 0 0) []:=⟨none,0,rfl,Nat.le_refl _,Nat.zero_le _,Reads.none_⟩
theorem bs_end8 (w:World) (A:Option Addr):BsAt w (.slice A 0 0) []:=⟨A,0,rfl,Nat.le_refl _,Nat.zero_le _,rfl,fun h=>by simp at h⟩
set_option maxRecDepth 100000 in
set_option maxHeartbeats 4000000 in
theorem r8number_any (vB:Value) (s:List UInt8) (bad:Bool) (hs:s.length≤1000000) (U w:World) (hU:Bel U w) (h:BsAt U vB s):Calls Tryz.prog 43 #[.agg #[vB,.bool bad]] w (GivesR8 (.int .i64 (n8 s bad).2) (n8 s bad).1 U w):=by
 have HN:=Lib.hid (fun V (hV:Bel w V)=>r2ReadNumber_any vB s hs V (h.bel (hU.then_ hV)))
 clear hU
 obtain ⟨Q,hQ⟩ : ∃ Q,Q=n8 s bad:=⟨_,rfl⟩
 rw [← hQ]
 have HQ0:Hid (Q=n8 s bad):=Lib.hid hQ
 clear hQ
 obtain ⟨A,c,rfl,hc,hcm,hrd⟩:=h
 cases hx:rdNum s with
 | none =>
   have HQ:Hid (Q=(([],true),0)):=by
    show _=_
    rw [HQ0.out]
    unfold n8 pNum
    rw [hx]
    cases bad <;> rfl
   rw [hx] at HN
   unfold numV at HN
   clear hx hc hcm hrd hs
   cases bad with
   | true =>
     go_enter Tryz.func43,Tryz.ntmps43
     go_wp2_with fail
     refine (HN.out _ (((Bel.refl w).alloc _).alloc _)).mono ?_
     rintro e w1 ⟨rfl,rfl⟩
     go_wp2
     refine bodyPost_ret (v:=.tuple #[.agg #[.slice none 0 0,.bool true],.int .i64 0]) (by simp [results,Tryz.results43,go_sem]) rfl ⟨_,by rw [HQ.out];(try rfl),by rw [HQ.out];exact bs_nil8 U,by (repeat (first | exact Below.refl _ _ | assumption | exact Bel.refl _ | refine Bel.alloc ?_ _ | refine Bel.drew ?_ | refine Bel.drewN ?_ _ | refine Bel.then_ ?_ (by assumption) | refine Bel.setCell ?_ (by first | (simp;done) | (simp;omega)) _))⟩
   | false =>
     go_enter Tryz.func43,Tryz.ntmps43
     go_wp2_with fail
     refine (HN.out _ (((Bel.refl w).alloc _).alloc _)).mono ?_
     rintro e w1 ⟨rfl,rfl⟩
     go_wp2
     refine bodyPost_ret (v:=.tuple #[.agg #[.slice none 0 0,.bool true],.int .i64 0]) (by simp [results,Tryz.results43,go_sem]) rfl ⟨_,by rw [HQ.out];(try rfl),by rw [HQ.out];exact bs_nil8 U,by (repeat (first | exact Below.refl _ _ | assumption | exact Bel.refl _ | refine Bel.alloc ?_ _ | refine Bel.drew ?_ | refine Bel.drewN ?_ _ | refine Bel.then_ ?_ (by assumption) | refine Bel.setCell ?_ (by first | (simp;done) | (simp;omega)) _))⟩
 | some p =>
   obtain ⟨n,m⟩:=p
   rw [hx] at HN
   unfold numV at HN
   dsimp only at HN
   obtain ⟨hm1,hml,hm9,hn64⟩:=rdNum_le hx
   have hnI:(n:Int)≤18446744073709551615:=by omega
   cases bad with
   | true =>
     have HQ:Hid (Q=(([],true),0)):=by show _=_;rw [HQ0.out];rfl
     clear hx hc hcm hrd hs
     go_enter Tryz.func43,Tryz.ntmps43
     go_wp2_with fail
     refine (HN.out _ (((Bel.refl w).alloc _).alloc _)).mono ?_
     rintro e w1 ⟨rfl,rfl⟩
     go_wp2
     refine bodyPost_ret (v:=.tuple #[.agg #[.slice none 0 0,.bool true],.int .i64 0]) (by simp [results,Tryz.results43,go_sem]) rfl ⟨_,by rw [HQ.out];(try rfl),by rw [HQ.out];exact bs_nil8 U,by (repeat (first | exact Below.refl _ _ | assumption | exact Bel.refl _ | refine Bel.alloc ?_ _ | refine Bel.drew ?_ | refine Bel.drewN ?_ _ | refine Bel.then_ ?_ (by assumption) | refine Bel.setCell ?_ (by first | (simp;done) | (simp;omega)) _))⟩
   | false =>
     by_cases hn:n<1001
     case neg =>
      have HQ:Hid (Q=(([],true),0)):=by show _=_;rw [HQ0.out];unfold n8 pNum;rw [hx];dsimp only;rw [if_neg hn];rfl
      have hnJ : ¬ (n:Int)≤1000:=by omega
      have hnK:(1000:Int)<n:=by omega
      clear hx hc hcm hrd hs hn hn64
      go_enter Tryz.func43,Tryz.ntmps43
      go_wp2_with fail
      refine (HN.out _ (((Bel.refl w).alloc _).alloc _)).mono ?_
      rintro e w1 ⟨rfl,rfl⟩
      go_wp2
      refine bodyPost_ret (v:=.tuple #[.agg #[.slice none 0 0,.bool true],.int .i64 0]) (by simp [results,Tryz.results43,go_sem]) rfl ⟨_,by rw [HQ.out];(try rfl),by rw [HQ.out];exact bs_nil8 U,by (repeat (first | exact Below.refl _ _ | assumption | exact Bel.refl _ | refine Bel.alloc ?_ _ | refine Bel.drew ?_ | refine Bel.drewN ?_ _ | refine Bel.then_ ?_ (by assumption) | refine Bel.setCell ?_ (by first | (simp;done) | (simp;omega)) _))⟩
     have HQ:Hid (Q=((s.drop m,false),n)):=by show _=_;rw [HQ0.out];unfold n8 pNum;rw [hx];dsimp only;rw [if_pos hn];rfl
     have hmI:(m:Int)≤s.length:=by omega
     have hlI:(s.length:Int)≤c:=by omega
     have hcI:(c:Int)≤9223372036854775807:=by unfold maxLen at hcm;omega
     have hdl:(s.drop m).length=s.length - m:=List.length_drop
     have hnJ:(n:Int)≤1000:=by omega
     have hnK : ¬ (1000:Int)<n:=by omega
     have hwn:IntKind.i64.wrap (n:Int)=(n:Int):=by simp only [IntKind.wrap,IntKind.bits,IntKind.signed];simp;omega
     clear hn hn64 hnI
     have hcut:=hrd.cut (k:=m) hml hc
     rw [Nat.mul_one,← List.map_drop] at hcut
     obtain ⟨ad,rfl,-⟩:=hrd.2 (by omega)
     by_cases hkc:c=m
     ·have hlen:s.length=m:=by omega
      have hd0:s.drop m=[]:=List.drop_eq_nil_of_le (by omega)
      rw [hd0] at HQ
      rw [hlen] at HN
      clear hx hrd hcut hd0 hdl hs
      subst hkc
      simp only [hlen] at *
      go_enter Tryz.func43,Tryz.ntmps43
      go_wp2_with fail
      refine (HN.out _ (((Bel.refl w).alloc _).alloc _)).mono ?_
      rintro e w1 ⟨rfl,rfl⟩
      go_wp2
      refine bodyPost_ret (v:=.tuple #[.agg #[.slice (some ad) 0 0,.bool false],.int .i64 n]) (by simp [results,Tryz.results43,go_sem]) rfl ⟨_,by rw [HQ.out];(try rfl),by rw [HQ.out];exact bs_end8 U _,by (repeat (first | exact Below.refl _ _ | assumption | exact Bel.refl _ | refine Bel.alloc ?_ _ | refine Bel.drew ?_ | refine Bel.drewN ?_ _ | refine Bel.then_ ?_ (by assumption) | refine Bel.setCell ?_ (by first | (simp;done) | (simp;omega)) _))⟩
     ·rw [if_neg hkc,← hdl] at hcut
      have HBE:Hid (BsAt U (.slice (some (ad.add m)) (s.length - m) (c - m)) (s.drop m)):=Lib.hid ⟨some (ad.add m),c - m,by rw [hdl],by rw [hdl];omega,by omega,hcut⟩
      have hI4:((s.length:Int) - m).toNat=s.length - m:=by omega
      have hI5:((c:Int) - m).toNat=c - m:=by omega
      clear hx hrd hcut hdl hs hml
      go_enter Tryz.func43,Tryz.ntmps43
      go_wp2_with fail
      refine (HN.out _ (((Bel.refl w).alloc _).alloc _)).mono ?_
      rintro e w1 ⟨rfl,rfl⟩
      go_wp2
      refine bodyPost_ret (v:=.tuple #[.agg #[.slice (some (ad.add m)) (s.length - m) (c - m),.bool false],.int .i64 n]) (by simp [results,Tryz.results43,go_sem]) rfl ⟨_,by rw [HQ.out];(try rfl),by rw [HQ.out];exact HBE.out,by (repeat (first | exact Below.refl _ _ | assumption | exact Bel.refl _ | refine Bel.alloc ?_ _ | refine Bel.drew ?_ | refine Bel.drewN ?_ _ | refine Bel.then_ ?_ (by assumption) | refine Bel.setCell ?_ (by first | (simp;done) | (simp;omega)) _))⟩
set_option maxRecDepth 100000 in
set_option maxHeartbeats 4000000 in
theorem r8Text_any (vB:Value) (s:List UInt8) (bad:Bool) (hs:s.length≤1000000) (U w:World) (hU:Bel U w) (h:BsAt U vB s):Calls Tryz.prog 44 #[.agg #[vB,.bool bad]] w (GivesR8 (strV (t8 s bad).2) (t8 s bad).1 U w):=by
 have HN:=Lib.hid (fun V (hV:Bel w V)=>r2ReadText_any vB s hs V (h.bel (hU.then_ hV)))
 clear hU
 obtain ⟨Q,hQ⟩ : ∃ Q,Q=t8 s bad:=⟨_,rfl⟩
 rw [← hQ]
 have HQ0:Hid (Q=t8 s bad):=Lib.hid hQ
 clear hQ
 obtain ⟨A,c,rfl,hc,hcm,hrd⟩:=h
 cases hx:rdText s with
 | none =>
   have HQ:Hid (Q=(([],true),[])):=by
    show _=_
    rw [HQ0.out]
    unfold t8
    rw [hx]
    cases bad <;> rfl
   rw [hx] at HN
   unfold textV at HN
   clear hx hc hcm hrd hs
   cases bad with
   | true =>
     go_enter Tryz.func44,Tryz.ntmps44
     go_wp2_with fail
     refine (HN.out _ (((Bel.refl w).alloc _).alloc _)).mono ?_
     rintro e w1 ⟨rfl,rfl⟩
     go_wp2
     refine bodyPost_ret (v:=.tuple #[.agg #[.slice none 0 0,.bool true],.string ⟨#[]⟩]) (by simp [results,Tryz.results44,go_sem]) rfl ⟨_,by rw [HQ.out];(try rfl),by rw [HQ.out];exact bs_nil8 U,by (repeat (first | exact Below.refl _ _ | assumption | exact Bel.refl _ | refine Bel.alloc ?_ _ | refine Bel.drew ?_ | refine Bel.drewN ?_ _ | refine Bel.then_ ?_ (by assumption) | refine Bel.setCell ?_ (by first | (simp;done) | (simp;omega)) _))⟩
   | false =>
     go_enter Tryz.func44,Tryz.ntmps44
     go_wp2_with fail
     refine (HN.out _ (((Bel.refl w).alloc _).alloc _)).mono ?_
     rintro e w1 ⟨rfl,rfl⟩
     go_wp2
     refine bodyPost_ret (v:=.tuple #[.agg #[.slice none 0 0,.bool true],.string ⟨#[]⟩]) (by simp [results,Tryz.results44,go_sem]) rfl ⟨_,by rw [HQ.out];(try rfl),by rw [HQ.out];exact bs_nil8 U,by (repeat (first | exact Below.refl _ _ | assumption | exact Bel.refl _ | refine Bel.alloc ?_ _ | refine Bel.drew ?_ | refine Bel.drewN ?_ _ | refine Bel.then_ ?_ (by assumption) | refine Bel.setCell ?_ (by first | (simp;done) | (simp;omega)) _))⟩
 | some p =>
   obtain ⟨x,m⟩:=p
   rw [hx] at HN
   unfold textV at HN
   dsimp only at HN
   obtain ⟨hml,hm1,-,-⟩:=rdText_back hx
   unfold strV at HN ⊢
   cases bad with
   | true =>
     have HQ:Hid (Q=(([],true),[])):=by show _=_;rw [HQ0.out];rfl
     clear hx hc hcm hrd hs
     go_enter Tryz.func44,Tryz.ntmps44
     go_wp2_with fail
     refine (HN.out _ (((Bel.refl w).alloc _).alloc _)).mono ?_
     rintro e w1 ⟨rfl,rfl⟩
     go_wp2
     refine bodyPost_ret (v:=.tuple #[.agg #[.slice none 0 0,.bool true],.string ⟨#[]⟩]) (by simp [results,Tryz.results44,go_sem]) rfl ⟨_,by rw [HQ.out];(try rfl),by rw [HQ.out];exact bs_nil8 U,by (repeat (first | exact Below.refl _ _ | assumption | exact Bel.refl _ | refine Bel.alloc ?_ _ | refine Bel.drew ?_ | refine Bel.drewN ?_ _ | refine Bel.then_ ?_ (by assumption) | refine Bel.setCell ?_ (by first | (simp;done) | (simp;omega)) _))⟩
   | false =>
     have HQ:Hid (Q=((s.drop m,false),x)):=by show _=_;rw [HQ0.out];unfold t8;rw [hx];rfl
     have hmI:(m:Int)≤s.length:=by omega
     have hlI:(s.length:Int)≤c:=by omega
     have hcI:(c:Int)≤9223372036854775807:=by unfold maxLen at hcm;omega
     have hdl:(s.drop m).length=s.length - m:=List.length_drop
     have hcut:=hrd.cut (k:=m) hml hc
     rw [Nat.mul_one,← List.map_drop] at hcut
     obtain ⟨ad,rfl,-⟩:=hrd.2 (by omega)
     by_cases hkc:c=m
     ·have hlen:s.length=m:=by omega
      have hd0:s.drop m=[]:=List.drop_eq_nil_of_le (by omega)
      rw [hd0] at HQ
      rw [hlen] at HN
      clear hx hrd hcut hd0 hdl hs
      subst hkc
      simp only [hlen] at *
      go_enter Tryz.func44,Tryz.ntmps44
      go_wp2_with fail
      refine (HN.out _ (((Bel.refl w).alloc _).alloc _)).mono ?_
      rintro e w1 ⟨rfl,rfl⟩
      go_wp2
      refine bodyPost_ret (v:=.tuple #[.agg #[.slice (some ad) 0 0,.bool false],.string ⟨x.toArray⟩]) (by simp [results,Tryz.results44,go_sem]) rfl ⟨_,by rw [HQ.out];(try rfl),by rw [HQ.out];exact bs_end8 U _,by (repeat (first | exact Below.refl _ _ | assumption | exact Bel.refl _ | refine Bel.alloc ?_ _ | refine Bel.drew ?_ | refine Bel.drewN ?_ _ | refine Bel.then_ ?_ (by assumption) | refine Bel.setCell ?_ (by first | (simp;done) | (simp;omega)) _))⟩
     ·rw [if_neg hkc,← hdl] at hcut
      have HBE:Hid (BsAt U (.slice (some (ad.add m)) (s.length - m) (c - m)) (s.drop m)):=Lib.hid ⟨some (ad.add m),c - m,by rw [hdl],by rw [hdl];omega,by omega,hcut⟩
      have hI4:((s.length:Int) - m).toNat=s.length - m:=by omega
      have hI5:((c:Int) - m).toNat=c - m:=by omega
      clear hx hrd hcut hdl hs hml
      go_enter Tryz.func44,Tryz.ntmps44
      go_wp2_with fail
      refine (HN.out _ (((Bel.refl w).alloc _).alloc _)).mono ?_
      rintro e w1 ⟨rfl,rfl⟩
      go_wp2
      refine bodyPost_ret (v:=.tuple #[.agg #[.slice (some (ad.add m)) (s.length - m) (c - m),.bool false],.string ⟨x.toArray⟩]) (by simp [results,Tryz.results44,go_sem]) rfl ⟨_,by rw [HQ.out];(try rfl),by rw [HQ.out];exact HBE.out,by (repeat (first | exact Below.refl _ _ | assumption | exact Bel.refl _ | refine Bel.alloc ?_ _ | refine Bel.drew ?_ | refine Bel.drewN ?_ _ | refine Bel.then_ ?_ (by assumption) | refine Bel.setCell ?_ (by first | (simp;done) | (simp;omega)) _))⟩
theorem t8_len (s:List UInt8) (bad:Bool):(t8 s bad).1.1.length≤s.length∧(t8 s bad).2.length≤s.length:=by
 unfold t8
 cases bad with
 | true=>exact ⟨Nat.zero_le _,Nat.zero_le _⟩
 | false =>
   cases h:rdText s with
   | none=>exact ⟨Nat.zero_le _,Nat.zero_le _⟩
   | some p =>
     obtain ⟨x,m⟩:=p
     obtain ⟨h1,h2,h3,h4⟩:=rdText_back h
     exact ⟨by show (s.drop m).length≤_;rw [List.length_drop];omega,h4⟩
set_option maxRecDepth 100000 in
set_option maxHeartbeats 4000000 in
theorem r8Row_any (vB:Value) (s:List UInt8) (bad:Bool) (hs:s.length≤1000000) (U w:World) (hU:Bel U w) (h:BsAt U vB s):Calls Tryz.prog 45 #[.agg #[vB,.bool bad]] w fun e w'=>∃ vB' v,e = .returned (.tuple #[.agg #[vB',.bool (w8 s bad).1.2],v])∧BsAt U vB' (w8 s bad).1.1∧ValsIn w.heap.size w' v (w8 s bad).2∧Bel w w':=by
 have HT:=Lib.hid (fun V (hV:Bel w V)=>r8Text_any vB s bad hs U V (hU.then_ hV) h)
 obtain ⟨hl1,hl2⟩:=t8_len s bad
 obtain ⟨Q,hQ⟩ : ∃ Q,Q=w8 s bad:=⟨_,rfl⟩
 rw [← hQ]
 unfold w8 at hQ
 generalize t8 s bad=T at *
 obtain ⟨⟨r,b⟩,x⟩:=T
 dsimp only at *
 have HD:=Lib.hid (fun V=>krDecode_any x (by omega) V)
 obtain ⟨l,no,hkd⟩ : ∃ l no,krDec x=(l,no):=⟨_,_,rfl⟩
 rw [hkd] at HD hQ
 dsimp only at *
 have HQ0:=Lib.hid hQ
 clear hQ hl1 hl2 hkd
 obtain ⟨A,c,rfl,-⟩:=h
 unfold strV at HD HT
 by_cases hno:no=0
 ·subst hno
  have HQ1:Hid (Q=((r,b),l)):=HQ0.out.trans (if_pos rfl)
  clear HQ0
  go_enter Tryz.func45,Tryz.ntmps45
  go_wp2_with fail
  refine (HT.out _ (((Bel.refl w).alloc _).alloc _)).mono ?_
  rintro e w1 ⟨vB',rfl,hbs,hb1⟩
  have HB1:Hid (Bel w w1):=Lib.hid ((((Bel.refl w).alloc _).alloc _).then_ hb1)
  have HBS:=Lib.hid hbs
  obtain ⟨A',c',rfl,hbs'⟩:=hbs
  have hB1:Blk w1 w.heap.size 97 #[.slice A s.length c,.bool bad]:=((Blk.new w _ _).below ((Bel.refl _).alloc _) (Blk.new w _ _).lt).below hb1 (by simp;omega)
  have hB2:Blk w1 (w.heap.size+1) 97 #[.slice none 0 0,.bool false]:=by
   have h:=Blk.new (w.alloc (.cells #[.slice A s.length c,.bool bad] 97)) 97 #[.slice none 0 0,.bool false]
   simp only [World.size_alloc] at h
   exact h.below hb1 (by simp)
  have p0:=hB1.cell 0
  have p1:=hB1.cell 1
  have f0:=hB1.frozen 0
  have f1:=hB1.frozen 1
  have HS1:=Lib.hid (((HB1.out.setCell (p:=⟨w.heap.size,0,none⟩) (Nat.le_refl _) (.slice A' r.length c')).setCell (p:=⟨w.heap.size,1,none⟩) (Nat.le_refl _) (.bool b)))
  have HB2:=Lib.hid ((hB2.far (p:=⟨w.heap.size,0,none⟩) (by simp) (.slice A' r.length c')).far (p:=⟨w.heap.size,1,none⟩) (by simp) (.bool b))
  have HBR:=Lib.hid ((hB1.set_ 0 (.slice A' r.length c')).set_ 1 (.bool b))
  clear hb1 hbs' hB1 hB2
  go_wp2_with fail
  refine (HD.out _).mono ?_
  rintro e w2 ⟨v,rfl,hv,hb2⟩
  have q0:w2.cell? ⟨w.heap.size,0,none⟩=some (.slice A' r.length c'):=(HBR.out.below hb2 HBR.out.lt).cell 0
  have q1:w2.cell? ⟨w.heap.size,1,none⟩=some (.bool b):=(HBR.out.below hb2 HBR.out.lt).cell 1
  have g0:=(HB2.out.below hb2 HB2.out.lt).frozen 0
  have g1:=(HB2.out.below hb2 HB2.out.lt).frozen 1
  have k0:w2.cell? ⟨w.heap.size+1,0,none⟩=some (.slice none 0 0):=(HB2.out.below hb2 HB2.out.lt).cell 0
  have k1:w2.cell? ⟨w.heap.size+1,1,none⟩=some (.bool false):=(HB2.out.below hb2 HB2.out.lt).cell 1
  have HV:Hid (ValsIn (w.heap.size+2) w2 v l):=Lib.hid (hv.less HB2.out.lt)
  have HB3:=Lib.hid (HS1.out.then_ hb2)
  have hsz:w.heap.size+1<w2.heap.size:=Nat.lt_of_lt_of_le HB2.out.lt hb2.size
  obtain ⟨Av,cv,rfl,-⟩:=hv.at_
  clear hv hb2 f0 f1 p0 p1
  go_wp2
  refine bodyPost_ret (v:=.tuple #[.agg #[.slice A' r.length c',.bool b],.slice Av l.length cv]) (by simp [results,Tryz.results45,go_sem,k0,k1]) rfl ⟨_,_,by rw [HQ1.out],by rw [HQ1.out];exact HBS.out, ?_, ?_⟩
  ·rw [HQ1.out]
   exact (vals_set (vals_set HV.out 0 _) 1 _).less (by omega)
  ·exact (HB3.out.setCell (p:=⟨w.heap.size+1,0,none⟩) (by simp) _).setCell (p:=⟨w.heap.size+1,1,none⟩) (by simp) _
 ·have hnb:(no != 0)=true:=by rw [bne_iff_ne];exact hno
  have HQ1:Hid (Q=(([],true),[])):=HQ0.out.trans (if_neg hno)
  clear HQ0
  go_enter Tryz.func45,Tryz.ntmps45
  go_wp2_with fail
  refine (HT.out _ (((Bel.refl w).alloc _).alloc _)).mono ?_
  rintro e w1 ⟨vB',rfl,hbs,hb1⟩
  have HB1:Hid (Bel w w1):=Lib.hid ((((Bel.refl w).alloc _).alloc _).then_ hb1)
  have HBS:=Lib.hid hbs
  obtain ⟨A',c',rfl,hbs'⟩:=hbs
  have hB1:Blk w1 w.heap.size 97 #[.slice A s.length c,.bool bad]:=((Blk.new w _ _).below ((Bel.refl _).alloc _) (Blk.new w _ _).lt).below hb1 (by simp;omega)
  have hB2:Blk w1 (w.heap.size+1) 97 #[.slice none 0 0,.bool false]:=by
   have h:=Blk.new (w.alloc (.cells #[.slice A s.length c,.bool bad] 97)) 97 #[.slice none 0 0,.bool false]
   simp only [World.size_alloc] at h
   exact h.below hb1 (by simp)
  have p0:=hB1.cell 0
  have p1:=hB1.cell 1
  have f0:=hB1.frozen 0
  have f1:=hB1.frozen 1
  have HS1:=Lib.hid (((HB1.out.setCell (p:=⟨w.heap.size,0,none⟩) (Nat.le_refl _) (.slice A' r.length c')).setCell (p:=⟨w.heap.size,1,none⟩) (Nat.le_refl _) (.bool b)))
  have HB2:=Lib.hid ((hB2.far (p:=⟨w.heap.size,0,none⟩) (by simp) (.slice A' r.length c')).far (p:=⟨w.heap.size,1,none⟩) (by simp) (.bool b))
  have HBR:=Lib.hid ((hB1.set_ 0 (.slice A' r.length c')).set_ 1 (.bool b))
  clear hb1 hbs' hB1 hB2
  go_wp2_with fail
  refine (HD.out _).mono ?_
  rintro e w2 ⟨v,rfl,hv,hb2⟩
  have q0:w2.cell? ⟨w.heap.size,0,none⟩=some (.slice A' r.length c'):=(HBR.out.below hb2 HBR.out.lt).cell 0
  have q1:w2.cell? ⟨w.heap.size,1,none⟩=some (.bool b):=(HBR.out.below hb2 HBR.out.lt).cell 1
  have g0:=(HB2.out.below hb2 HB2.out.lt).frozen 0
  have g1:=(HB2.out.below hb2 HB2.out.lt).frozen 1
  have k0:w2.cell? ⟨w.heap.size+1,0,none⟩=some (.slice none 0 0):=(HB2.out.below hb2 HB2.out.lt).cell 0
  have k1:w2.cell? ⟨w.heap.size+1,1,none⟩=some (.bool false):=(HB2.out.below hb2 HB2.out.lt).cell 1
  have HV:Hid (ValsIn (w.heap.size+2) w2 v l):=Lib.hid (hv.less HB2.out.lt)
  have HB3:=Lib.hid (HS1.out.then_ hb2)
  have hsz:w.heap.size+1<w2.heap.size:=Nat.lt_of_lt_of_le HB2.out.lt hb2.size
  obtain ⟨Av,cv,rfl,-⟩:=hv.at_
  clear hv hb2 f0 f1 p0 p1
  go_wp2
  refine bodyPost_ret (v:=.tuple #[.agg #[.slice none 0 0,.bool true],.slice none 0 0]) (by simp [results,Tryz.results45,go_sem,k0,k1]) rfl ⟨_,_,by rw [HQ1.out],by rw [HQ1.out];exact bs_nil8 U, ?_, ?_⟩
  ·rw [HQ1.out]
   exact vals_none _ _
  ·exact (HB3.out.setCell (p:=⟨w.heap.size+1,0,none⟩) (by simp) _).setCell (p:=⟨w.heap.size+1,1,none⟩) (by simp) _
end
section
open Go.RowKit Go.Shelf Go.Lib
def dec8 (s:List UInt8):Ev×Int:=if (d8 s).1.2=false∧rightE (d8 s).2=true∧encE (d8 s).2=s then ((d8 s).2,0) else (evOf 0,180)
theorem krDec_wf (s:List UInt8) : ∀ x ∈ (krDec s).1,x.Wf:=by
 unfold krDec
 cases h:rdKeys s with
 | none=>intro x hx;cases hx
 | some l=>exact rdKeys_wf h
theorem w8_wf (s:List UInt8) (bad:Bool) : ∀ x ∈ (w8 s bad).2,x.Wf:=by
 unfold w8
 intro x hx
 split at hx
 ·exact krDec_wf _ x hx
 ·cases hx
theorem wf_of {e e':Ev} (h:e.Wf) (ho:e'.o=e.o) (hn:e'.n=e.n):e'.Wf:=fun x hx=>h x (by rw [← ho,← hn];exact hx)
theorem d8t_wf (p:Q8×Ev) (h:p.2.Wf):(d8t p).2.Wf:=by unfold d8t;split <;> exact wf_of h rfl rfl
theorem d8s_wf (p:Q8×Ev) (h:p.2.Wf):(d8s p).2.Wf:=by unfold d8s;split <;> exact wf_of h rfl rfl
theorem d8p_wf (p:Q8×Ev) (h:p.2.Wf):(d8p p).2.Wf:=by exact wf_of h rfl rfl
theorem d8o_wf (p:Q8×Ev) (h:p.2.Wf):(d8o p).2.Wf:=by
 unfold d8o
 split
 ·intro x hx
  rcases List.mem_append.1 hx with hx | hx
  ·exact w8_wf _ _ x hx
  ·exact h x (List.mem_append_right _ hx)
 ·exact h
theorem d8n_wf (p:Q8×Ev) (h:p.2.Wf):(d8n p).2.Wf:=by
 unfold d8n
 split
 ·intro x hx
  rcases List.mem_append.1 hx with hx | hx
  ·exact h x (List.mem_append_left _ hx)
  ·exact w8_wf _ _ x hx
 ·exact h
theorem d8_wf (s:List UInt8):(d8 s).2.Wf:=d8p_wf _ (d8s_wf _ (d8n_wf _ (d8o_wf _ (d8t_wf _ (evOf_wf _)))))
theorem n8_enc {n:Nat} (h:n≤1000) (r:List UInt8):n8 (numB n ++ r) false=((r,false),n):=by
 unfold n8
 rw [pNum_enc (by omega) (by omega)]
 rfl
theorem t8_enc {x:List UInt8} (h:x.length≤1000000) (r:List UInt8):t8 (textB x ++ r) false=((r,false),x):=by
 unfold t8
 rw [rdText_enc _ h]
 show ((((textB x ++ r).drop (textB x).length),false),x)=_
 rw [List.drop_left]
theorem w8_enc {l:List Val} (h:rowB l=true) (hw : ∀ x ∈ l,x.Wf) (r:List UInt8):w8 (textB (keyL l) ++ r) false=((r,false),l):=by
 have hl:=rowB_len h hw
 unfold w8
 rw [t8_enc (by omega)]
 unfold krDec
 rw [rdKeys_enc (fun y hy=>⟨(rowB_parts h).2.2 y hy,hw y hy⟩) (by omega)]
 rfl
theorem s8_enc {c:List Col} {ky:List Int} {u:List (List Int)} (h:rightS c ky u=true) (r:List UInt8):s8 (textB (encSch c ky u) ++ r,false)=((r,false),(c,ky,u)):=by
 have:=encSch_small h
 unfold s8
 rw [t8_enc (by omega),decS_enc h]
theorem ps8_enc : ∀ (l a:List (ByteArray×ByteArray)) (r:List UInt8),(∀ p ∈ l,p.1.size≤1000000∧p.2.size≤1000000)→ps8 l.length (encPairs l ++ r,false) a=((r,false),a ++ l)
 | [],a,r,h=>by show ((r,false),a)=_;rw [List.append_nil]
 | p :: l,a,r,h=>by
   obtain ⟨h1,h2⟩:=h p (List.mem_cons_self ..)
   have e1:t8 (encPairs (p :: l) ++ r) false=((textB p.2.data.toList ++ (encPairs l ++ r),false),p.1.data.toList):=by
    show t8 ((textB p.1.data.toList ++ textB p.2.data.toList) ++ encPairs l ++ r) false=_
    rw [List.append_assoc,List.append_assoc,t8_enc (by rw [blen];exact h1)]
   rw [List.length_cons,ps8,e1]
   dsimp only
   rw [t8_enc (by rw [blen];exact h2)]
   dsimp only
   rw [ps8_enc l _ r (fun q hq=>h q (List.mem_cons_of_mem _ hq)),barr,barr,List.append_assoc]
   rfl
theorem n8_le (s:List UInt8) (bad:Bool):(n8 s bad).1.1.length≤s.length∧(n8 s bad).2≤1000:=by
 unfold n8
 cases bad with
 | true=>exact ⟨Nat.zero_le _,Nat.zero_le _⟩
 | false =>
   cases h:pNum 1001 s with
   | none=>exact ⟨Nat.zero_le _,Nat.zero_le _⟩
   | some p =>
     obtain ⟨n,r⟩:=p
     obtain ⟨h1,h2⟩:=pNum_len h
     exact ⟨h1,by show n≤1000;omega⟩
theorem w8_len (s:List UInt8) (bad:Bool):(w8 s bad).1.1.length≤s.length:=by
 unfold w8
 split
 ·exact (t8_len s bad).1
 ·exact Nat.zero_le _
theorem s8_len (q:Q8):(s8 q).1.1.length≤q.1.length:=by
 unfold s8
 split <;> exact (t8_len q.1 q.2).1
theorem d8t_k (p:Q8×Ev):(d8t p).2.k=p.2.k:=by unfold d8t;split <;> rfl
theorem d8o_k (p:Q8×Ev):(d8o p).2.k=p.2.k:=by unfold d8o;split <;> rfl
theorem d8n_k (p:Q8×Ev):(d8n p).2.k=p.2.k:=by unfold d8n;split <;> rfl
theorem d8s_k (p:Q8×Ev):(d8s p).2.k=p.2.k:=by unfold d8s;split <;> rfl
theorem d8t_ns (p:Q8×Ev):(d8t p).2.ns=p.2.ns:=by unfold d8t;split <;> rfl
theorem d8o_ns (p:Q8×Ev):(d8o p).2.ns=p.2.ns:=by unfold d8o;split <;> rfl
theorem d8n_ns (p:Q8×Ev):(d8n p).2.ns=p.2.ns:=by unfold d8n;split <;> rfl
theorem d8s_ns (p:Q8×Ev):(d8s p).2.ns=p.2.ns:=by unfold d8s;split <;> rfl
theorem d8t_len (p:Q8×Ev):(d8t p).1.1.length≤p.1.1.length:=by
 unfold d8t
 split
 ·exact Nat.le_refl _
 ·exact (t8_len _ _).1
theorem d8o_len (p:Q8×Ev):(d8o p).1.1.length≤p.1.1.length:=by
 unfold d8o
 split
 ·exact w8_len _ _
 ·exact Nat.le_refl _
theorem d8n_len (p:Q8×Ev):(d8n p).1.1.length≤p.1.1.length:=by
 unfold d8n
 split
 ·exact w8_len _ _
 ·exact Nat.le_refl _
theorem d8s_len (p:Q8×Ev):(d8s p).1.1.length≤p.1.1.length:=by
 unfold d8s
 split
 ·exact s8_len _
 ·exact Nat.le_refl _
theorem d8q_len (p:Q8×Ev):(d8q p).1.1.length≤p.1.1.length∧(d8q p).2≤1000:=by
 unfold d8q
 split
 ·exact n8_le _ _
 ·exact ⟨Nat.le_refl _,Nat.zero_le _⟩
def Sz8 (B:Nat) (e:Ev):Prop:=e.t.size≤B∧(e.c=[]∧e.ky=[]∧e.u=[] ∨ rightS e.c e.ky e.u=true) ∧ ∀ p ∈ e.ns,p.1.size≤B∧p.2.size≤B
theorem ps8_sz (B:Nat) : ∀ (n:Nat) (q:Q8) (l:List (ByteArray×ByteArray)),q.1.length≤B→(∀ p ∈ l,p.1.size≤B∧p.2.size≤B) → ∀ p ∈ (ps8 n q l).2,p.1.size≤B∧p.2.size≤B
 | 0,q,l,hq,hl=>hl
 | n+1,q,l,hq,hl=>by
   have h1:=t8_len q.1 q.2
   have h2:=t8_len (t8 q.1 q.2).1.1 (t8 q.1 q.2).1.2
   refine ps8_sz B n _ _ (by omega) (fun p hp=>?_)
   rcases List.mem_append.1 hp with hp | hp
   ·exact hl p hp
   ·simp at hp
    subst hp
    exact ⟨by show (t8 q.1 q.2).2.toArray.size≤B;rw [List.size_toArray];omega,by show (t8 (t8 q.1 q.2).1.1 (t8 q.1 q.2).1.2).2.toArray.size≤B;rw [List.size_toArray];omega⟩
theorem d8_sz (s:List UInt8):Sz8 s.length (d8 s).2:=by
 have h0:Sz8 s.length (d8a s).2:=⟨Nat.zero_le _,.inl ⟨rfl,rfl,rfl⟩,fun p hp=>by cases hp⟩
 have l0:(d8a s).1.1.length≤s.length:=(n8_le s false).1
 have h1:Sz8 s.length (d8t (d8a s)).2:=by
  unfold d8t
  split
  ·exact h0
  ·exact ⟨by show (t8 (d8a s).1.1 (d8a s).1.2).2.toArray.size≤_;rw [List.size_toArray];exact Nat.le_trans (t8_len _ _).2 l0,h0.2⟩
 have l1:=Nat.le_trans (d8t_len (d8a s)) l0
 have h2:Sz8 s.length (d8o (d8t (d8a s))).2:=by unfold d8o;split <;> exact h1
 have l2:=Nat.le_trans (d8o_len (d8t (d8a s))) l1
 have h3:Sz8 s.length (d8n (d8o (d8t (d8a s)))).2:=by unfold d8n;split <;> exact h2
 have l3:=Nat.le_trans (d8n_len (d8o (d8t (d8a s)))) l2
 have h4:Sz8 s.length (d8s (d8n (d8o (d8t (d8a s))))).2:=by
  generalize d8n (d8o (d8t (d8a s)))=p at h3
  unfold d8s
  split
  ·refine ⟨h3.1, ?_,h3.2.2⟩
   unfold s8
   cases hd:decS (t8 p.1.1 p.1.2).2 with
   | none=>exact .inl ⟨rfl,rfl,rfl⟩
   | some x =>
     obtain ⟨c,ky,u⟩:=x
     exact .inr (decS_some hd).1
  ·exact h3
 have l4:=Nat.le_trans (d8s_len (d8n (d8o (d8t (d8a s))))) l3
 show Sz8 s.length (d8p (d8s (d8n (d8o (d8t (d8a s)))))).2
 generalize d8s (d8n (d8o (d8t (d8a s))))=p at h4 l4
 exact ⟨h4.1,h4.2.1,ps8_sz _ _ _ _ (Nat.le_trans (d8q_len p).1 l4) (fun p hp=>by cases hp)⟩
theorem sz8_ok {B:Nat} (hB:B≤1000000) {e:Ev} (h:Sz8 B e):(∀ c ∈ e.c,c.name.size≤1000000)∧(e.c.length≤1000000∧e.ky.length≤1000000∧e.u.length≤1000000):=by
 obtain ⟨-,h2,-⟩:=h
 rcases h2 with ⟨a,b,c⟩ | h2
 ·rw [a,b,c]
  exact ⟨(fun c hc=>absurd hc (List.not_mem_nil)),Nat.zero_le _,Nat.zero_le _,Nat.zero_le _⟩
 ·obtain ⟨a1,a2,a3,a4,a5,a6⟩:=right_small h2
  exact ⟨fun c hc=>by have:=(a1 c hc).2.2.2.2;omega,by omega,by have:=a4.1;omega,by omega⟩
theorem d8_enc {e:Ev} (h:rightE e=true) (hw:e.Wf):d8 (encE e)=(([],false),e):=by
 obtain ⟨hk,hb,hp,-⟩:=rightE_parts h
 have hwo : ∀ y ∈ e.o,y.Wf:=fun y hy=>hw y (List.mem_append_left _ hy)
 have hwn : ∀ y ∈ e.n,y.Wf:=fun y hy=>hw y (List.mem_append_right _ hy)
 have hM : ∀ p ∈ partsOf e.k,mayP e p=true:=List.all_eq_true.1 hp
 have hn:((e.k.toNat:Nat):Int)=e.k:=Int.toNat_of_nonneg (by omega)
 have ha:d8a (encE e)=(((partsOf e.k).flatMap (layP e),false),evOf e.k):=by
  unfold d8a encE
  rw [n8_enc (by omega),hn]
 have hN : ∀ b:ByteArray,namedB b=true→b.data.toList.length≤1000000:=fun b hb=>by rw [blen];have:=(named_size hb).2;omega
 unfold d8
 rw [ha]
 clear ha hp hn
 obtain ⟨k,t,c,ky,u,o,n,ns⟩:=e
 dsimp only at *
 have hc:k=1 ∨ k=2 ∨ k=3 ∨ k=4 ∨ k=5 ∨ k=6:=by omega
 rcases hc with rfl | rfl | rfl | rfl | rfl | rfl
 ·have m0:namedB t=true:=hM 0 (by decide)
  have m4:rowB n=true:=hM 4 (by decide)
  have e1:(partsOf 1).flatMap (layP ⟨1,t,c,ky,u,o,n,ns⟩)=textB t.data.toList ++ (textB (keyL n) ++ []):=by simp [partsOf,layP]
  rw [e1,hb]
  simp only [d8t,d8o,d8n,d8s,d8p,d8q,evOf,bareE,t8_enc (hN t m0),w8_enc m4 hwn,barr,show ¬ ((1:Int)=6) by decide,show ¬ ((1:Int)=4) by decide,show ¬ ((1:Int)=2 ∨ (1:Int)=3) by decide,show ((1:Int)=1 ∨ (1:Int)=2) by decide,if_true,if_false,true_or,or_true,Nat.zero_min,ps8]
 ·have m0:namedB t=true:=hM 0 (by decide)
  have m3:rowB o=true:=hM 3 (by decide)
  have m4:rowB n=true:=hM 4 (by decide)
  have e1:(partsOf 2).flatMap (layP ⟨2,t,c,ky,u,o,n,ns⟩)=textB t.data.toList ++ (textB (keyL o) ++ (textB (keyL n) ++ [])):=by simp [partsOf,layP]
  rw [e1,hb]
  simp only [d8t,d8o,d8n,d8s,d8p,d8q,evOf,bareE,t8_enc (hN t m0),w8_enc m4 hwn,w8_enc m3 hwo,barr,show ¬ ((2:Int)=6) by decide,show ¬ ((2:Int)=4) by decide,show ((2:Int)=2 ∨ (2:Int)=3) by decide,show ((2:Int)=1 ∨ (2:Int)=2) by decide,if_true,if_false,true_or,or_true,Nat.zero_min,ps8]
 ·have m0:namedB t=true:=hM 0 (by decide)
  have m3:rowB o=true:=hM 3 (by decide)
  have e1:(partsOf 3).flatMap (layP ⟨3,t,c,ky,u,o,n,ns⟩)=textB t.data.toList ++ (textB (keyL o) ++ []):=by simp [partsOf,layP]
  rw [e1,hb]
  simp only [d8t,d8o,d8n,d8s,d8p,d8q,evOf,bareE,t8_enc (hN t m0),w8_enc m3 hwo,barr,show ¬ ((3:Int)=6) by decide,show ¬ ((3:Int)=4) by decide,show ((3:Int)=2 ∨ (3:Int)=3) by decide,show ¬ ((3:Int)=1 ∨ (3:Int)=2) by decide,if_true,if_false,true_or,or_true,Nat.zero_min,ps8]
 ·have m0:namedB t=true:=hM 0 (by decide)
  have m1:rightS c ky u=true:=hM 1 (by decide)
  have e1:(partsOf 4).flatMap (layP ⟨4,t,c,ky,u,o,n,ns⟩)=textB t.data.toList ++ (textB (encSch c ky u) ++ []):=by simp [partsOf,layP]
  rw [e1,hb]
  simp only [d8t,d8o,d8n,d8s,d8p,d8q,evOf,bareE,t8_enc (hN t m0),s8_enc m1,barr,show ¬ ((4:Int)=6) by decide,show ¬ ((4:Int)=2 ∨ (4:Int)=3) by decide,show ¬ ((4:Int)=1 ∨ (4:Int)=2) by decide,if_true,if_false,true_or,or_true,Nat.zero_min,ps8]
 ·have m0:namedB t=true:=hM 0 (by decide)
  have e1:(partsOf 5).flatMap (layP ⟨5,t,c,ky,u,o,n,ns⟩)=textB t.data.toList ++ []:=by simp [partsOf,layP]
  rw [e1,hb]
  simp only [d8t,d8o,d8n,d8s,d8p,d8q,evOf,bareE,t8_enc (hN t m0),barr,show ¬ ((5:Int)=6) by decide,show ¬ ((5:Int)=4) by decide,show ¬ ((5:Int)=2 ∨ (5:Int)=3) by decide,show ¬ ((5:Int)=1 ∨ (5:Int)=2) by decide,if_true,if_false,true_or,or_true,Nat.zero_min,ps8]
 ·have m2:namesB ns=true:=hM 2 (by decide)
  obtain ⟨l1,l4,hnm⟩:=namesB_parts m2
  have e1:(partsOf 6).flatMap (layP ⟨6,t,c,ky,u,o,n,ns⟩)=numB ns.length ++ (encPairs ns ++ []):=by simp [partsOf,layP]
  have hps:=ps8_enc ns [] [] (fun p hp=>⟨by have:=(named_size (hnm p hp).1).2;omega,by have:=(named_size (hnm p hp).2).2;omega⟩)
  have hmin:min ns.length 5=ns.length:=by omega
  rw [e1,hb]
  simp only [d8t,d8o,d8n,d8s,d8p,d8q,evOf,bareE,n8_enc (show ns.length≤1000 by omega),hmin,hps,List.nil_append,show ¬ ((6:Int)=4) by decide,show ¬ ((6:Int)=2 ∨ (6:Int)=3) by decide,show ¬ ((6:Int)=1 ∨ (6:Int)=2) by decide,if_true,if_false,true_or,or_true]
theorem dec8_is (s:List UInt8):dec8 s=match decE s with
  | some x=>(x,0)
  | none=>(evOf 0,180):=by
 unfold dec8
 by_cases hc:(d8 s).1.2=false∧rightE (d8 s).2=true∧encE (d8 s).2=s
 ·rw [if_pos hc]
  have:=decE_enc hc.2.1 (d8_wf s)
  rw [hc.2.2] at this
  rw [this]
 ·rw [if_neg hc]
  cases hd:decE s with
  | none=>rfl
  | some e =>
    exfalso
    obtain ⟨h1,h2⟩:=decE_some hd
    have:=d8_enc h1 (decE_wf hd)
    rw [h2] at this
    rw [this] at hc
    exact hc ⟨rfl,h1,h2⟩
end
end Go.Proofs.YtnajjhgbombboaaGreatDoor
