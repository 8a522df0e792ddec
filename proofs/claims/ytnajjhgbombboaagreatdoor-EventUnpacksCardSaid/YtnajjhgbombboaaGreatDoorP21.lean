/-
  Texts behind the statement: part 21.
-/
import Derived.Test.YtnajjhgbombboaaGreatDoorP20
set_option linter.unusedVariables false
set_option linter.unusedSimpArgs false
namespace Go.Proofs.YtnajjhgbombboaaGreatDoor
section
open Go.RowKit Go.Shelf Go.Lib
attribute [local go_sem] Oper.semAt_some
def partC (bo bn:Nat) (p:Nat):List Value :=
 if p=0 then [fnV 99,fnV 101,fnV 102] else if p=1 then [fnV 103,fnV 105,fnV 107] else if p=2 then [fnV 109,fnV 112,fnV 113]
 else if p=3 then [fnB 91 bo,fnB 95 bo,fnB 97 bo] else [fnB 91 bn,fnB 95 bn,fnB 97 bn]
def pvOf (bo bn p:Nat):Value:=.agg (partC bo bn p).toArray
theorem etable_any (w:World):Calls Tryz.prog 61 #[] w fun e w'=>e = .returned (.agg #[fnV 99,fnV 101,fnV 102])∧Bel w w':=by
 unfold fnV
 go_enter Tryz.func61,Tryz.ntmps61
 go_wp2
 refine bodyPost_ret (v:=.agg #[.func (.func 99) #[] #[],.func (.func 101) #[] #[],.func (.func 102) #[] #[]]) (by simp [results,Tryz.results61,go_sem]) rfl ⟨rfl,by (repeat (first | exact Below.refl _ _ | assumption | exact Bel.refl _ | refine Bel.alloc ?_ _ | refine Bel.drew ?_ | refine Bel.drewN ?_ _ | refine Bel.then_ ?_ (by assumption) | refine Bel.setCell ?_ (by first | (simp;done) | (simp;omega)) _))⟩
theorem eshape_any (w:World):Calls Tryz.prog 62 #[] w fun e w'=>e = .returned (.agg #[fnV 103,fnV 105,fnV 107])∧Bel w w':=by
 unfold fnV
 go_enter Tryz.func62,Tryz.ntmps62
 go_wp2
 refine bodyPost_ret (v:=.agg #[.func (.func 103) #[] #[],.func (.func 105) #[] #[],.func (.func 107) #[] #[]]) (by simp [results,Tryz.results62,go_sem]) rfl ⟨rfl,by (repeat (first | exact Below.refl _ _ | assumption | exact Bel.refl _ | refine Bel.alloc ?_ _ | refine Bel.drew ?_ | refine Bel.drewN ?_ _ | refine Bel.then_ ?_ (by assumption) | refine Bel.setCell ?_ (by first | (simp;done) | (simp;omega)) _))⟩
theorem enames_any (w:World):Calls Tryz.prog 63 #[] w fun e w'=>e = .returned (.agg #[fnV 109,fnV 112,fnV 113])∧Bel w w':=by
 unfold fnV
 go_enter Tryz.func63,Tryz.ntmps63
 go_wp2
 refine bodyPost_ret (v:=.agg #[.func (.func 109) #[] #[],.func (.func 112) #[] #[],.func (.func 113) #[] #[]]) (by simp [results,Tryz.results63,go_sem]) rfl ⟨rfl,by (repeat (first | exact Below.refl _ _ | assumption | exact Bel.refl _ | refine Bel.alloc ?_ _ | refine Bel.drew ?_ | refine Bel.drewN ?_ _ | refine Bel.then_ ?_ (by assumption) | refine Bel.setCell ?_ (by first | (simp;done) | (simp;omega)) _))⟩
theorem erow_any (g:Nat) (w:World):Calls Tryz.prog 58 #[.func (.func g) #[] #[]] w fun e w'=>e = .returned (.agg #[fnB 91 w.heap.size,fnB 95 w.heap.size,fnB 97 w.heap.size])∧Blk w' w.heap.size 115 #[.func (.func g) #[] #[]]∧Bel w w':=by
 unfold fnB
 have HB:=Lib.hid ((Blk.new w 115 #[.func (.func g) #[] #[]]).alloc (.cells #[.func (.func 91) #[] #[.pointer (some ⟨w.heap.size,0,none⟩)],.func (.func 95) #[] #[.pointer (some ⟨w.heap.size,0,none⟩)],.func (.func 97) #[] #[.pointer (some ⟨w.heap.size,0,none⟩)]] 76))
 go_enter Tryz.func58,Tryz.ntmps58
 go_wp2
 refine bodyPost_ret (v:=.agg #[.func (.func 91) #[] #[.pointer (some ⟨w.heap.size,0,none⟩)],.func (.func 95) #[] #[.pointer (some ⟨w.heap.size,0,none⟩)],.func (.func 97) #[] #[.pointer (some ⟨w.heap.size,0,none⟩)]]) (by simp [results,Tryz.results58,go_sem]) rfl ⟨rfl, ?_,by (repeat (first | exact Below.refl _ _ | assumption | exact Bel.refl _ | refine Bel.alloc ?_ _ | refine Bel.drew ?_ | refine Bel.drewN ?_ _ | refine Bel.then_ ?_ (by assumption) | refine Bel.setCell ?_ (by first | (simp;done) | (simp;omega)) _))⟩
 exact HB.out
def kConsts:List (Nat×Nat×Nat):=[(1,6,0),(2,7,4),(5,9,0),(6,10,3),(7,11,4),(10,13,0),(11,14,3),(14,16,0),(15,17,1),(18,19,0),(21,21,2)]
def kSlices:List (Nat×Nat×Nat):=[(3,8,1),(8,12,2),(12,15,3),(16,18,4),(19,20,5),(22,22,6)]
def kIns:List (Nat×Nat):=[(4,1),(9,2),(13,3),(17,4),(20,5),(23,6)]
def kBehind:List Nat:=[4,9,13,17,20,23,24,25]
def SlP (base bo bn:Nat) (w:World) (v:Value) (k:Int):Prop:=∃ g,v = .slice (some ⟨g,0,none⟩) (partsOf k).length (partsOf k).length∧base≤g∧Blk w g 76 ((partsOf k).flatMap (partC bo bn)).toArray
theorem SlP.keep {base bo bn:Nat} {w w':World} {v:Value} {k:Int} (h:SlP base bo bn w v k) (hk : ∀ (g:Nat) (T:TypeId) (cs:Array Value),Blk w g T cs→Blk w' g T cs):SlP base bo bn w' v k:=by
 obtain ⟨g,h1,h2,h3⟩:=h
 exact ⟨g,h1,h2,hk _ _ _ h3⟩
def setL (L:Nat→Bool) (i:Nat):Nat→Bool:=fun j=>if j=i then true else L j
def setT (t:Nat→Value) (d:Nat) (v:Value):Nat→Value:=fun j=>if j=d then v else t j
theorem setL_ne {L:Nat→Bool} {i j:Nat} (h:j ≠ i):setL L i j=L j:=if_neg h
theorem setT_ne {t:Nat→Value} {d j:Nat} {v:Value} (h:j ≠ d):setT t d v j=t j:=if_neg h
theorem setT_eq {t:Nat→Value} {d:Nat} {v:Value} : setT t d v d=v:=if_pos rfl
structure KI (W:World) (b1 b2 bo bn:Nat) (L:Nat→Bool) (t:Nat→Value) (w:World):Prop where
 bel:Bel W w
 t1:t 1 = .pointer (some ⟨b1,0,none⟩)
 t2:t 2 = .pointer (some ⟨b2,0,none⟩)
 cs : ∀ x ∈ kConsts,L x.1=true→t x.2.1=pvOf bo bn x.2.2
 sl : ∀ x ∈ kSlices,L x.1=true→SlP W.heap.size bo bn w (t x.2.1) x.2.2
 mp:L 0=true → ∃ m f,t 5 = .map (some m)∧W.heap.size≤m∧MapAt w m f∧(∀ k v,f k=some v→(1≤k∧k≤6)∧SlP W.heap.size bo bn w v k) ∧ ∀ x ∈ kIns,L x.1=true→f x.2 ≠ none
 dep : ∀ i ∈ kBehind,L i=true→L 0=true
 l24:L 24=true→t 23=t 5
 l25:L 25=true→t 0=t 5∧L 24=true
section
variable {W w w':World} {b1 b2 bo bn:Nat} {L:Nat→Bool} {t:Nat→Value}
theorem KI.keep (h:KI W b1 b2 bo bn L t w) (hb:Bel W w') (hk : ∀ (g:Nat) (T:TypeId) (cs:Array Value),Blk w g T cs→Blk w' g T cs) (hm : ∀ m f,MapAt w m f→MapAt w' m f):KI W b1 b2 bo bn L t w' :=
 ⟨hb,h.t1,h.t2,h.cs,fun x hx hl=>(h.sl x hx hl).keep hk,fun hl=>by
  obtain ⟨m,f,h1,h2,h3,h4,h5⟩:=h.mp hl
  exact ⟨m,f,h1,h2,hm _ _ h3,fun k v hf=>⟨(h4 k v hf).1,(h4 k v hf).2.keep hk⟩,h5⟩,h.dep,h.l24,h.l25⟩
theorem KI.below (h:KI W b1 b2 bo bn L t w) (hb:Bel w w'):KI W b1 b2 bo bn L t w':=h.keep (h.bel.then_ hb) (fun g T cs hB=>hB.below hb hB.lt) (fun m f hm=>hm.bel hb)
theorem KI.const (h:KI W b1 b2 bo bn L t w) (i d p:Nat) (hi:(i,d,p) ∈ kConsts):KI W b1 b2 bo bn (setL L i) (setT t d (pvOf bo bn p)) w:=by
 have hd:d ≠ 1∧d ≠ 2∧d ≠ 5∧d ≠ 23∧d ≠ 0∧i ≠ 0∧i ≠ 24∧i ≠ 25:=(show ∀ x ∈ kConsts,x.2.1 ≠ 1∧x.2.1 ≠ 2∧x.2.1 ≠ 5∧x.2.1 ≠ 23∧x.2.1 ≠ 0∧x.1 ≠ 0∧x.1 ≠ 24∧x.1 ≠ 25 by decide) _ hi
 obtain ⟨d1,d2,d5,d23,d0,i0,i24,i25⟩:=hd
 refine ⟨h.bel,(setT_ne (Ne.symm d1)).trans h.t1,(setT_ne (Ne.symm d2)).trans h.t2,fun x hx hl=>?_,fun x hx hl=>?_,fun hl=>?_,fun j hj hl=>?_,fun hl=>?_,fun hl=>?_⟩
 ·by_cases e:x.1=i
  ·obtain rfl:x=(i,d,p):=(show ∀ x ∈ kConsts,∀ y ∈ kConsts,x.1=y.1→x=y by decide) x hx _ hi e
   exact setT_eq
  ·rw [setL_ne e] at hl
   rw [setT_ne ((show ∀ x ∈ kConsts,∀ y ∈ kConsts,x.1 ≠ y.1→x.2.1 ≠ y.2.1 by decide) x hx _ hi e)]
   exact h.cs x hx hl
 ·have hne:=(show ∀ x ∈ kSlices,∀ y ∈ kConsts,x.1 ≠ y.1∧x.2.1 ≠ y.2.1 by decide) x hx _ hi
  rw [setL_ne hne.1] at hl
  rw [setT_ne hne.2]
  exact h.sl x hx hl
 ·rw [setL_ne (Ne.symm i0)] at hl
  obtain ⟨m,f,h1,h2,h3,h4,h5⟩:=h.mp hl
  exact ⟨m,f,(setT_ne (Ne.symm d5)).trans h1,h2,h3,h4,fun x hx hl=>h5 x hx (by rwa [setL_ne ((show ∀ x ∈ kIns,∀ y ∈ kConsts,x.1 ≠ y.1 by decide) x hx _ hi)] at hl)⟩
 ·rw [setL_ne ((show ∀ x ∈ kBehind,∀ y ∈ kConsts,x ≠ y.1 by decide) j hj _ hi)] at hl
  rw [setL_ne (Ne.symm i0)]
  exact h.dep j hj hl
 ·rw [setL_ne (Ne.symm i24)] at hl
  rw [setT_ne (Ne.symm d23),setT_ne (Ne.symm d5)]
  exact h.l24 hl
 ·rw [setL_ne (Ne.symm i25)] at hl
  rw [setT_ne (Ne.symm d0),setT_ne (Ne.symm d5),setL_ne (Ne.symm i24)]
  exact h.l25 hl
theorem KI.slice (h:KI W b1 b2 bo bn L t w) (i d p:Nat) (hi:(i,d,p) ∈ kSlices) (v:Value) (hv:SlP W.heap.size bo bn w v p):KI W b1 b2 bo bn (setL L i) (setT t d v) w:=by
 have hd:d ≠ 1∧d ≠ 2∧d ≠ 5∧d ≠ 23∧d ≠ 0∧i ≠ 0∧i ≠ 24∧i ≠ 25:=(show ∀ x ∈ kSlices,x.2.1 ≠ 1∧x.2.1 ≠ 2∧x.2.1 ≠ 5∧x.2.1 ≠ 23∧x.2.1 ≠ 0∧x.1 ≠ 0∧x.1 ≠ 24∧x.1 ≠ 25 by decide) _ hi
 obtain ⟨d1,d2,d5,d23,d0,i0,i24,i25⟩:=hd
 refine ⟨h.bel,(setT_ne (Ne.symm d1)).trans h.t1,(setT_ne (Ne.symm d2)).trans h.t2,fun x hx hl=>?_,fun x hx hl=>?_,fun hl=>?_,fun j hj hl=>?_,fun hl=>?_,fun hl=>?_⟩
 ·have hne:=(show ∀ x ∈ kConsts,∀ y ∈ kSlices,x.1 ≠ y.1∧x.2.1 ≠ y.2.1 by decide) x hx _ hi
  rw [setL_ne hne.1] at hl
  rw [setT_ne hne.2]
  exact h.cs x hx hl
 ·by_cases e:x.1=i
  ·obtain rfl:x=(i,d,p):=(show ∀ x ∈ kSlices,∀ y ∈ kSlices,x.1=y.1→x=y by decide) x hx _ hi e
   rw [setT_eq]
   exact hv
  ·rw [setL_ne e] at hl
   rw [setT_ne ((show ∀ x ∈ kSlices,∀ y ∈ kSlices,x.1 ≠ y.1→x.2.1 ≠ y.2.1 by decide) x hx _ hi e)]
   exact h.sl x hx hl
 ·rw [setL_ne (Ne.symm i0)] at hl
  obtain ⟨m,f,h1,h2,h3,h4,h5⟩:=h.mp hl
  exact ⟨m,f,(setT_ne (Ne.symm d5)).trans h1,h2,h3,h4,fun x hx hl=>h5 x hx (by rwa [setL_ne ((show ∀ x ∈ kIns,∀ y ∈ kSlices,x.1 ≠ y.1 by decide) x hx _ hi)] at hl)⟩
 ·rw [setL_ne ((show ∀ x ∈ kBehind,∀ y ∈ kSlices,x ≠ y.1 by decide) j hj _ hi)] at hl
  rw [setL_ne (Ne.symm i0)]
  exact h.dep j hj hl
 ·rw [setL_ne (Ne.symm i24)] at hl
  rw [setT_ne (Ne.symm d23),setT_ne (Ne.symm d5)]
  exact h.l24 hl
 ·rw [setL_ne (Ne.symm i25)] at hl
  rw [setT_ne (Ne.symm d0),setT_ne (Ne.symm d5),setL_ne (Ne.symm i24)]
  exact h.l25 hl
theorem KI.make (h:KI W b1 b2 bo bn L t w) (h0:L 0=false):KI W b1 b2 bo bn (setL L 0) (setT t 5 (.map (some w.heap.size))) (w.alloc (.map #[] 0)):=by
 have h':=h.below ((Bel.refl w).alloc (.map #[] 0))
 have hno : ∀ j ∈ kBehind,L j=false:=fun j hj=>by
  cases e:L j with
  | false=>rfl
  | true=>rw [h.dep j hj e] at h0;cases h0
 refine ⟨h'.bel,h.t1,h.t2,fun x hx hl=>?_,fun x hx hl=>?_,fun hl=>⟨_,_,setT_eq,h.bel.size,MapAt.made w,fun k v hf=>(by cases hf),fun x hx hl=>?_⟩,fun j hj hl=>rfl,fun hl=>?_,fun hl=>?_⟩
 ·have hne:=(show ∀ x ∈ kConsts,x.1 ≠ 0∧x.2.1 ≠ 5 by decide) x hx
  rw [setL_ne hne.1] at hl
  rw [setT_ne hne.2]
  exact h.cs x hx hl
 ·have hne:=(show ∀ x ∈ kSlices,x.1 ≠ 0∧x.2.1 ≠ 5 by decide) x hx
  rw [setL_ne hne.1] at hl
  rw [setT_ne hne.2]
  exact h'.sl x hx hl
 ·rw [setL_ne ((show ∀ x ∈ kIns,x.1 ≠ 0 by decide) x hx),hno _ ((show ∀ x ∈ kIns,x.1 ∈ kBehind by decide) x hx)] at hl
  cases hl
 ·rw [setL_ne (by decide),hno _ (by decide)] at hl
  cases hl
 ·rw [setL_ne (by decide),hno _ (by decide)] at hl
  cases hl
theorem KI.ins (h:KI W b1 b2 bo bn L t w) (i:Nat) (k:Int) (hi : ∃ n:Nat,k=n∧(i,n) ∈ kIns) (h0:L 0=true) {m:Nat} {f:Int→Option Value} {v:Value} (hm5:t 5 = .map (some m)) (hmW:W.heap.size≤m)
  (hf : ∀ k v,f k=some v→(1≤k∧k≤6)∧SlP W.heap.size bo bn w v k) (hfi : ∀ x ∈ kIns,L x.1=true→f x.2 ≠ none) (hm:MapAt w m f) (hv:SlP W.heap.size bo bn w v k) (hm':MapAt w' m (upd f k v)) (hg:w.grownBy w' (some m)):KI W b1 b2 bo bn (setL L i) t w':=by
 obtain ⟨n,rfl,hi⟩:=hi
 have hkb : ∀ (g:Nat) (T:TypeId) (cs:Array Value),Blk w g T cs→Blk w' g T cs:=fun g T cs hB=>hB.grown hg (fun e=>by
  obtain ⟨es,clk,hb,-⟩:=hm
  cases e
  unfold Blk at hB
  rw [hB] at hb
  cases hb)
 have hd:i ≠ 0∧i ≠ 24∧i ≠ 25∧1≤n∧n≤6:=(show ∀ x ∈ kIns,x.1 ≠ 0∧x.1 ≠ 24∧x.1 ≠ 25∧1≤x.2∧x.2≤6 by decide) _ hi
 obtain ⟨i0,i24,i25,n1,n6⟩:=hd
 refine ⟨⟨hg.os.trans h.bel.os,hg.tape.trans h.bel.tape,hg.output.trans h.bel.output,Nat.le_trans h.bel.size hg.size,fun j hj=>(hg.block j (Nat.lt_of_lt_of_le hj h.bel.size) (fun e=>by cases e;omega)).trans (h.bel.block j hj)⟩,h.t1,h.t2,fun x hx hl=>?_,fun x hx hl=>?_,fun hl=>?_,fun j hj hl=>?_,fun hl=>?_,fun hl=>?_⟩
 ·rw [setL_ne ((show ∀ x ∈ kConsts,∀ y ∈ kIns,x.1 ≠ y.1 by decide) x hx _ hi)] at hl
  exact h.cs x hx hl
 ·rw [setL_ne ((show ∀ x ∈ kSlices,∀ y ∈ kIns,x.1 ≠ y.1 by decide) x hx _ hi)] at hl
  exact (h.sl x hx hl).keep hkb
 ·refine ⟨m,_,hm5,hmW,hm',fun k v' hk=>?_,fun x hx hl=>?_⟩
  ·unfold upd at hk
   by_cases e:k=n
   ·rw [if_pos e] at hk
    cases hk
    rw [e]
    exact ⟨by omega,hv.keep hkb⟩
   ·rw [if_neg e] at hk
    exact ⟨(hf k v' hk).1,(hf k v' hk).2.keep hkb⟩
  ·unfold upd
   by_cases e:(x.2:Int)=n
   ·rw [if_pos e]
    simp
   ·rw [if_neg e]
    by_cases e2:x.1=i
    ·obtain rfl:x=(i,n):=(show ∀ x ∈ kIns,∀ y ∈ kIns,x.1=y.1→x=y by decide) x hx _ hi e2
     exact absurd rfl e
    ·rw [setL_ne e2] at hl
     exact hfi x hx hl
 ·rw [setL_ne (Ne.symm i0)]
  exact h0
 ·rw [setL_ne (Ne.symm i24)] at hl
  exact h.l24 hl
 ·rw [setL_ne (Ne.symm i25)] at hl
  rw [setL_ne (Ne.symm i24)]
  exact h.l25 hl
theorem KI.l24s (h:KI W b1 b2 bo bn L t w) (h0:L 0=true):KI W b1 b2 bo bn (setL L 24) (setT t 23 (t 5)) w:=by
 refine ⟨h.bel,h.t1,h.t2,fun x hx hl=>?_,fun x hx hl=>?_,fun hl=>?_,fun j hj hl=>by rw [setL_ne (by decide)];exact h0,fun hl=>?_,fun hl=>?_⟩
 ·have hne:=(show ∀ x ∈ kConsts,x.1 ≠ 24∧x.2.1 ≠ 23 by decide) x hx
  rw [setL_ne hne.1] at hl
  rw [setT_ne hne.2]
  exact h.cs x hx hl
 ·have hne:=(show ∀ x ∈ kSlices,x.1 ≠ 24∧x.2.1 ≠ 23 by decide) x hx
  rw [setL_ne hne.1] at hl
  rw [setT_ne hne.2]
  exact h.sl x hx hl
 ·obtain ⟨m,f,h1,h2,h3,h4,h5⟩:=h.mp h0
  exact ⟨m,f,h1,h2,h3,h4,fun x hx hl=>h5 x hx (by rwa [setL_ne ((show ∀ x ∈ kIns,x.1 ≠ 24 by decide) x hx)] at hl)⟩
 ·rw [setT_eq,setT_ne (by decide)]
 ·rw [setL_ne (by decide)] at hl
  exact ⟨(h.l25 hl).1,if_pos rfl⟩
theorem KI.l25s (h:KI W b1 b2 bo bn L t w) (h0:L 0=true) (h24:L 24=true):KI W b1 b2 bo bn (setL L 25) (setT t 0 (t 5)) w:=by
 refine ⟨h.bel,h.t1,h.t2,fun x hx hl=>?_,fun x hx hl=>?_,fun hl=>?_,fun j hj hl=>by rw [setL_ne (by decide)];exact h0,fun hl=>?_,fun hl=>?_⟩
 ·have hne:=(show ∀ x ∈ kConsts,x.1 ≠ 25∧x.2.1 ≠ 0 by decide) x hx
  rw [setL_ne hne.1] at hl
  rw [setT_ne hne.2]
  exact h.cs x hx hl
 ·have hne:=(show ∀ x ∈ kSlices,x.1 ≠ 25∧x.2.1 ≠ 0 by decide) x hx
  rw [setL_ne hne.1] at hl
  rw [setT_ne hne.2]
  exact h.sl x hx hl
 ·obtain ⟨m,f,h1,h2,h3,h4,h5⟩:=h.mp h0
  exact ⟨m,f,h1,h2,h3,h4,fun x hx hl=>h5 x hx (by rwa [setL_ne ((show ∀ x ∈ kIns,x.1 ≠ 25 by decide) x hx)] at hl)⟩
 ·rw [setT_ne (by decide),setT_ne (by decide)]
  exact h.l24 h24
 ·rw [setT_eq,setT_ne (by decide),setL_ne (by decide)]
  exact ⟨rfl,h24⟩
end
def kI (W:World) (b1 b2 bo bn:Nat) (listed:Array Bool) (a:Act) (w:World):Prop:=listed.size=26 ∧ ∃ t:Nat→Value,a = { tmps:=#[t 0,t 1,t 2,t 3,t 4,t 5,t 6,t 7,t 8,t 9,t 10,t 11,t 12,t 13,t 14,t 15,t 16,t 17,t 18,t 19,t 20,t 21,t 22,t 23],defers:=[] } ∧ KI W b1 b2 bo bn (fun i=>listed.getD i false) t w
theorem kI_set {listed:Array Bool} {i:Nat} (hi:i<26) (hl:listed.size=26):(fun j=>(listed.setIfInBounds i true).getD j false)=setL (fun j=>listed.getD j false) i:=by
 funext j
 unfold setL
 by_cases hj:j=i
 ·subst hj;rw [if_pos rfl];simp [hl,hi]
 ·rw [if_neg hj];simp [Array.getElem?_setIfInBounds,Ne.symm hj]
theorem kI_next {W:World} {b1 b2 bo bn i:Nat} {listed:Array Bool} (hl:listed.size=26) (hi:i<26) {t':Nat→Value} {a':Act} {w':World} (ha:a' = { tmps:=#[t' 0,t' 1,t' 2,t' 3,t' 4,t' 5,t' 6,t' 7,t' 8,t' 9,t' 10,t' 11,t' 12,t' 13,t' 14,t' 15,t' 16,t' 17,t' 18,t' 19,t' 20,t' 21,t' 22,t' 23],defers:=[] }) (h:KI W b1 b2 bo bn (setL (fun j=>listed.getD j false) i) t' w'):kI W b1 b2 bo bn (listed.setIfInBounds i true) a' w' :=
 ⟨by rw [Array.size_setIfInBounds,hl],t',ha,by rw [kI_set hi hl];exact h⟩
theorem SlP.less {base base' bo bn:Nat} {w:World} {v:Value} {k:Int} (h:SlP base bo bn w v k) (hb:base'≤base):SlP base' bo bn w v k:=by
 obtain ⟨g,h1,h2,h3⟩:=h
 exact ⟨g,h1,Nat.le_trans hb h2,h3⟩
theorem kI_none (i:Nat) : ¬ ((Array.replicate 26 false).getD i false=true):=by
 by_cases h:i<26 <;> simp [h]
def KindsAt (base bo bn:Nat) (w:World) (m:Nat) (f:Int→Option Value):Prop:=MapAt w m f∧(∀ k v,f k=some v→(1≤k∧k≤6)∧SlP base bo bn w v k) ∧ ∀ k,1≤k→k≤6→f k ≠ none
set_option maxRecDepth 100000 in
set_option maxHeartbeats 4000000 in
theorem ekinds_any (w:World):Calls Tryz.prog 27 #[] w fun e w'=>∃ m f bo bn,e = .returned (.map (some m))∧KindsAt w.heap.size bo bn w' m f∧w.heap.size≤bo∧w.heap.size≤bn∧Blk w' bo 115 #[fnV 59]∧Blk w' bn 115 #[fnV 60]∧Bel w w':=by
 have hmm:=@run_makeMap Tryz.prog
 go_enter Tryz.func27,Tryz.ntmps27
 go_wp2_with fail
 refine (erow_any _ _).mono ?_
 rintro e w1 ⟨rfl,hB1,hb1⟩
 have HB1:=Lib.hid hB1
 have HL1:=Lib.hid hb1
 clear hB1 hb1
 unfold fnB
 go_wp2_with fail
 refine (erow_any _ _).mono ?_
 rintro e w2 ⟨rfl,hB2,hb2⟩
 have HB2:=Lib.hid hB2
 have HL2:=Lib.hid hb2
 clear hB2 hb2
 unfold fnB
 go_wp2_with fail
 obtain ⟨b1,hb1e⟩ : ∃ b,b=w1.heap.size:=⟨_,rfl⟩
 obtain ⟨b2,hb2e⟩ : ∃ b,b=w2.heap.size:=⟨_,rfl⟩
 obtain ⟨bo,hboe⟩ : ∃ b,b=w.heap.size:=⟨_,rfl⟩
 obtain ⟨bn,hbne⟩ : ∃ b,b=w1.heap.size+1:=⟨_,rfl⟩
 rw [World.size_alloc] at HB2
 try rw [World.size_alloc]
 rw [← hbne] at HB2 ⊢
 rw [← hb1e,← hb2e]
 rw [← hboe] at HB1 HL2 ⊢
 obtain ⟨W,hW⟩ : ∃ W,W=w2.alloc (.cells #[.func (.func 91) #[] #[.pointer (some ⟨bn,0,none⟩)],.func (.func 95) #[] #[.pointer (some ⟨bn,0,none⟩)],.func (.func 97) #[] #[.pointer (some ⟨bn,0,none⟩)]] 76):=⟨_,rfl⟩
 rw [← hW]
 have K2:Hid (Blk W b2 76 (partC bo bn 4).toArray):=Lib.hid (by rw [hW,hb2e];exact Blk.new w2 _ _)
 have hb12:Bel (w1.alloc (.cells #[.func (.func 91) #[] #[.pointer (some ⟨bo,0,none⟩)],.func (.func 95) #[] #[.pointer (some ⟨bo,0,none⟩)],.func (.func 97) #[] #[.pointer (some ⟨bo,0,none⟩)]] 76)) W:=by rw [hW];exact HL2.out.alloc _
 have K1:Hid (Blk W b1 76 (partC bo bn 3).toArray):=Lib.hid ((show Blk _ b1 _ _ by rw [hb1e];exact Blk.new w1 _ _).below hb12 (by rw [hb1e];simp))
 have KO:Hid (Blk W bo 115 #[fnV 59]):=Lib.hid ((HB1.out.alloc _).below hb12 (HB1.out.alloc _).lt)
 have KN:Hid (Blk W bn 115 #[fnV 60]):=Lib.hid (by rw [hW];exact HB2.out.alloc _)
 have KW:Hid (Bel w W):=Lib.hid ((HL1.out.alloc _).then_ hb12)
 have hbow:w.heap.size≤bo:=by omega
 have hbnw:w.heap.size≤bn:=by have:=HL1.out.size;omega
 clear hb12 hW HB1 HB2 HL1 HL2 hboe hbne hb1e hb2e
 have HC1:Hid (∀ V,Bel W V→V.cell? ⟨b1,0,none⟩=some (fnB 91 bo)∧V.cell? ⟨b1,1,none⟩=some (fnB 95 bo)∧V.cell? ⟨b1,2,none⟩=some (fnB 97 bo)):=Lib.hid (fun V hV=>by have h:=K1.out.below hV K1.out.lt;exact ⟨h.cell 0,h.cell 1,h.cell 2⟩)
 have HC2:Hid (∀ V,Bel W V→V.cell? ⟨b2,0,none⟩=some (fnB 91 bn)∧V.cell? ⟨b2,1,none⟩=some (fnB 95 bn)∧V.cell? ⟨b2,2,none⟩=some (fnB 97 bn)):=Lib.hid (fun V hV=>by have h:=K2.out.below hV K2.out.lt;exact ⟨h.cell 0,h.cell 1,h.cell 2⟩)
 refine wp_region_inv (kI W b1 b2 bo bn) [0,1,2,3,4,5,6,7,8,9,10,11,12,13,14,15,16,17,18,19,20,21,22,23,24,25] (by kernel_rfl) (by kernel_rfl) (by kernel_rfl) (fun l a w h=>h.1) ?h0 ?hstep ?hdone
 case h0=>exact ⟨by simp,(fun j=>if j=0 then .map none else if j=1 then .pointer (some ⟨b1,0,none⟩) else if j=2 then .pointer (some ⟨b2,0,none⟩) else if j=3 then .agg #[fnB 91 bo,fnB 95 bo,fnB 97 bo] else if j=4 then .agg #[fnB 91 bn,fnB 95 bn,fnB 97 bn] else undef),rfl,⟨(Bel.refl W).drew,rfl,rfl,fun x hx hl=>absurd hl (kI_none x.1),fun x hx hl=>absurd hl (kI_none x.1),fun hl=>absurd hl (kI_none 0),fun i hi hl=>absurd hl (kI_none i),fun hl=>absurd hl (kI_none 24),fun hl=>absurd hl (kI_none 25)⟩⟩
 case hdone =>
  intro listed a V hI hall
  obtain ⟨hls,t,rfl,h⟩:=hI
  have hl : ∀ i,i<26→listed.getD i false=true:=fun i hi=>hall i hi
  obtain ⟨m,f,e5,hm,hmap,hf,hins⟩:=h.mp (hl 0 (by omega))
  have e0:t 0 = .map (some m):=(h.l25 (hl 25 (by omega))).1.trans e5
  have HK:Hid (KindsAt W.heap.size bo bn V m f):=Lib.hid ⟨hmap,hf,fun k h1 h6=>by
   have hk:k=1 ∨ k=2 ∨ k=3 ∨ k=4 ∨ k=5 ∨ k=6:=by omega
   rcases hk with rfl | rfl | rfl | rfl | rfl | rfl
   ·exact hins (4,1) (by decide) (hl 4 (by omega))
   ·exact hins (9,2) (by decide) (hl 9 (by omega))
   ·exact hins (13,3) (by decide) (hl 13 (by omega))
   ·exact hins (17,4) (by decide) (hl 17 (by omega))
   ·exact hins (20,5) (by decide) (hl 20 (by omega))
   ·exact hins (23,6) (by decide) (hl 23 (by omega))⟩
  have HBV:=Lib.hid h.bel
  rw [e0]
  clear h hmap hf hins hall e5 e0 hl
  go_wp2
  go_ret
  exact ⟨m,f,bo,bn,rfl,⟨HK.out.1,fun k v hk=>⟨(HK.out.2.1 k v hk).1,(HK.out.2.1 k v hk).2.less KW.out.size⟩,HK.out.2.2⟩,hbow,hbnw,KO.out.below HBV.out KO.out.lt,KN.out.below HBV.out KN.out.lt,KW.out.then_ HBV.out⟩
 case hstep =>
  refine StepAll.cons (o:=_) rfl ?s0 (StepAll.cons (o:=_) rfl ?s1 (StepAll.cons (o:=_) rfl ?s2 (StepAll.cons (o:=_) rfl ?s3 (StepAll.cons (o:=_) rfl ?s4 (StepAll.cons (o:=_) rfl ?s5 (StepAll.cons (o:=_) rfl ?s6 (StepAll.cons (o:=_) rfl ?s7 (StepAll.cons (o:=_) rfl ?s8 (StepAll.cons (o:=_) rfl ?s9 (StepAll.cons (o:=_) rfl ?s10 (StepAll.cons (o:=_) rfl ?s11 (StepAll.cons (o:=_) rfl ?s12 (StepAll.cons (o:=_) rfl ?s13 (StepAll.cons (o:=_) rfl ?s14 (StepAll.cons (o:=_) rfl ?s15 (StepAll.cons (o:=_) rfl ?s16 (StepAll.cons (o:=_) rfl ?s17 (StepAll.cons (o:=_) rfl ?s18 (StepAll.cons (o:=_) rfl ?s19 (StepAll.cons (o:=_) rfl ?s20 (StepAll.cons (o:=_) rfl ?s21 (StepAll.cons (o:=_) rfl ?s22 (StepAll.cons (o:=_) rfl ?s23 (StepAll.cons (o:=_) rfl ?s24 (StepAll.cons (o:=_) rfl ?s25 (StepAll.nil))))))))))))))))))))))))))
  case s0 =>
   intro listed a V hun hdeps hI K hK
   obtain ⟨hls,t,rfl,h⟩:=hI
   have e1:=h.t1
   have e2:=h.t2
   go_simp
   exact hK.out _ _ (kI_next hls (by omega) (by simp [setT,pvOf,partC,fnB,fnV, *]) (h.make hun))
  case s1 =>
   intro listed a V hun hdeps hI K hK
   obtain ⟨hls,t,rfl,h⟩:=hI
   have e1:=h.t1
   have e2:=h.t2
   go_simp
   go_at_call 61
   refine (etable_any _).mono ?_
   rintro e w9 ⟨rfl,hb9⟩
   try (go_wp2_with fail)
   exact hK.out _ _ (kI_next hls (by omega) (by simp [setT,pvOf,partC,fnB,fnV, *]) ((h.below hb9).const 1 6 0 (by decide)))
  case s2 =>
   intro listed a V hun hdeps hI K hK
   obtain ⟨hls,t,rfl,h⟩:=hI
   have e1:=h.t1
   have e2:=h.t2
   obtain ⟨x0,x1,x2⟩:=HC2.out V h.bel
   go_simp
   exact hK.out _ _ (kI_next hls (by omega) (by simp [setT,pvOf,partC,fnB,fnV, *]) (h.const 2 7 4 (by decide)))
  case s5 =>
   intro listed a V hun hdeps hI K hK
   obtain ⟨hls,t,rfl,h⟩:=hI
   have e1:=h.t1
   have e2:=h.t2
   go_simp
   go_at_call 61
   refine (etable_any _).mono ?_
   rintro e w9 ⟨rfl,hb9⟩
   try (go_wp2_with fail)
   exact hK.out _ _ (kI_next hls (by omega) (by simp [setT,pvOf,partC,fnB,fnV, *]) ((h.below hb9).const 5 9 0 (by decide)))
  case s6 =>
   intro listed a V hun hdeps hI K hK
   obtain ⟨hls,t,rfl,h⟩:=hI
   have e1:=h.t1
   have e2:=h.t2
   obtain ⟨x0,x1,x2⟩:=HC1.out V h.bel
   go_simp
   exact hK.out _ _ (kI_next hls (by omega) (by simp [setT,pvOf,partC,fnB,fnV, *]) (h.const 6 10 3 (by decide)))
  case s7 =>
   intro listed a V hun hdeps hI K hK
   obtain ⟨hls,t,rfl,h⟩:=hI
   have e1:=h.t1
   have e2:=h.t2
   obtain ⟨x0,x1,x2⟩:=HC2.out V h.bel
   go_simp
   exact hK.out _ _ (kI_next hls (by omega) (by simp [setT,pvOf,partC,fnB,fnV, *]) (h.const 7 11 4 (by decide)))
  case s10 =>
   intro listed a V hun hdeps hI K hK
   obtain ⟨hls,t,rfl,h⟩:=hI
   have e1:=h.t1
   have e2:=h.t2
   go_simp
   go_at_call 61
   refine (etable_any _).mono ?_
   rintro e w9 ⟨rfl,hb9⟩
   try (go_wp2_with fail)
   exact hK.out _ _ (kI_next hls (by omega) (by simp [setT,pvOf,partC,fnB,fnV, *]) ((h.below hb9).const 10 13 0 (by decide)))
  case s11 =>
   intro listed a V hun hdeps hI K hK
   obtain ⟨hls,t,rfl,h⟩:=hI
   have e1:=h.t1
   have e2:=h.t2
   obtain ⟨x0,x1,x2⟩:=HC1.out V h.bel
   go_simp
   exact hK.out _ _ (kI_next hls (by omega) (by simp [setT,pvOf,partC,fnB,fnV, *]) (h.const 11 14 3 (by decide)))
  case s14 =>
   intro listed a V hun hdeps hI K hK
   obtain ⟨hls,t,rfl,h⟩:=hI
   have e1:=h.t1
   have e2:=h.t2
   go_simp
   go_at_call 61
   refine (etable_any _).mono ?_
   rintro e w9 ⟨rfl,hb9⟩
   try (go_wp2_with fail)
   exact hK.out _ _ (kI_next hls (by omega) (by simp [setT,pvOf,partC,fnB,fnV, *]) ((h.below hb9).const 14 16 0 (by decide)))
  case s15 =>
   intro listed a V hun hdeps hI K hK
   obtain ⟨hls,t,rfl,h⟩:=hI
   have e1:=h.t1
   have e2:=h.t2
   go_simp
   go_at_call 62
   refine (eshape_any _).mono ?_
   rintro e w9 ⟨rfl,hb9⟩
   try (go_wp2_with fail)
   exact hK.out _ _ (kI_next hls (by omega) (by simp [setT,pvOf,partC,fnB,fnV, *]) ((h.below hb9).const 15 17 1 (by decide)))
  case s18 =>
   intro listed a V hun hdeps hI K hK
   obtain ⟨hls,t,rfl,h⟩:=hI
   have e1:=h.t1
   have e2:=h.t2
   go_simp
   go_at_call 61
   refine (etable_any _).mono ?_
   rintro e w9 ⟨rfl,hb9⟩
   try (go_wp2_with fail)
   exact hK.out _ _ (kI_next hls (by omega) (by simp [setT,pvOf,partC,fnB,fnV, *]) ((h.below hb9).const 18 19 0 (by decide)))
  case s21 =>
   intro listed a V hun hdeps hI K hK
   obtain ⟨hls,t,rfl,h⟩:=hI
   have e1:=h.t1
   have e2:=h.t2
   go_simp
   go_at_call 63
   refine (enames_any _).mono ?_
   rintro e w9 ⟨rfl,hb9⟩
   try (go_wp2_with fail)
   exact hK.out _ _ (kI_next hls (by omega) (by simp [setT,pvOf,partC,fnB,fnV, *]) ((h.below hb9).const 21 21 2 (by decide)))
  case s3 =>
   intro listed a V hun hdeps hI K hK
   obtain ⟨hls,t,rfl,h⟩:=hI
   have e1:=h.t1
   have e2:=h.t2
   have d1:listed.getD 1 false=true:=hdeps { on:=1,ground:=.data } (by simp) rfl
   have d2:listed.getD 2 false=true:=hdeps { on:=2,ground:=.data } (by simp) rfl
   have v1:=h.cs (1,6,0) (by decide) d1
   simp only [pvOf,partC] at v1
   have v2:=h.cs (2,7,4) (by decide) d2
   simp only [pvOf,partC] at v2
   go_simp
   exact hK.out _ _ (kI_next hls (by omega) (by simp [setT,pvOf,partC,fnB,fnV, *]) ((h.below ((Bel.refl V).alloc _)).slice 3 8 1 (by decide) (.slice (some ⟨V.heap.size,0,none⟩) 2 2) ⟨V.heap.size,rfl,h.bel.size,Blk.new V _ _⟩))
  case s8 =>
   intro listed a V hun hdeps hI K hK
   obtain ⟨hls,t,rfl,h⟩:=hI
   have e1:=h.t1
   have e2:=h.t2
   have d5:listed.getD 5 false=true:=hdeps { on:=5,ground:=.data } (by simp) rfl
   have d6:listed.getD 6 false=true:=hdeps { on:=6,ground:=.data } (by simp) rfl
   have d7:listed.getD 7 false=true:=hdeps { on:=7,ground:=.data } (by simp) rfl
   have v5:=h.cs (5,9,0) (by decide) d5
   simp only [pvOf,partC] at v5
   have v6:=h.cs (6,10,3) (by decide) d6
   simp only [pvOf,partC] at v6
   have v7:=h.cs (7,11,4) (by decide) d7
   simp only [pvOf,partC] at v7
   go_simp
   exact hK.out _ _ (kI_next hls (by omega) (by simp [setT,pvOf,partC,fnB,fnV, *]) ((h.below ((Bel.refl V).alloc _)).slice 8 12 2 (by decide) (.slice (some ⟨V.heap.size,0,none⟩) 3 3) ⟨V.heap.size,rfl,h.bel.size,Blk.new V _ _⟩))
  case s12 =>
   intro listed a V hun hdeps hI K hK
   obtain ⟨hls,t,rfl,h⟩:=hI
   have e1:=h.t1
   have e2:=h.t2
   have d10:listed.getD 10 false=true:=hdeps { on:=10,ground:=.data } (by simp) rfl
   have d11:listed.getD 11 false=true:=hdeps { on:=11,ground:=.data } (by simp) rfl
   have v10:=h.cs (10,13,0) (by decide) d10
   simp only [pvOf,partC] at v10
   have v11:=h.cs (11,14,3) (by decide) d11
   simp only [pvOf,partC] at v11
   go_simp
   exact hK.out _ _ (kI_next hls (by omega) (by simp [setT,pvOf,partC,fnB,fnV, *]) ((h.below ((Bel.refl V).alloc _)).slice 12 15 3 (by decide) (.slice (some ⟨V.heap.size,0,none⟩) 2 2) ⟨V.heap.size,rfl,h.bel.size,Blk.new V _ _⟩))
  case s16 =>
   intro listed a V hun hdeps hI K hK
   obtain ⟨hls,t,rfl,h⟩:=hI
   have e1:=h.t1
   have e2:=h.t2
   have d14:listed.getD 14 false=true:=hdeps { on:=14,ground:=.data } (by simp) rfl
   have d15:listed.getD 15 false=true:=hdeps { on:=15,ground:=.data } (by simp) rfl
   have v14:=h.cs (14,16,0) (by decide) d14
   simp only [pvOf,partC] at v14
   have v15:=h.cs (15,17,1) (by decide) d15
   simp only [pvOf,partC] at v15
   go_simp
   exact hK.out _ _ (kI_next hls (by omega) (by simp [setT,pvOf,partC,fnB,fnV, *]) ((h.below ((Bel.refl V).alloc _)).slice 16 18 4 (by decide) (.slice (some ⟨V.heap.size,0,none⟩) 2 2) ⟨V.heap.size,rfl,h.bel.size,Blk.new V _ _⟩))
  case s19 =>
   intro listed a V hun hdeps hI K hK
   obtain ⟨hls,t,rfl,h⟩:=hI
   have e1:=h.t1
   have e2:=h.t2
   have d18:listed.getD 18 false=true:=hdeps { on:=18,ground:=.data } (by simp) rfl
   have v18:=h.cs (18,19,0) (by decide) d18
   simp only [pvOf,partC] at v18
   go_simp
   exact hK.out _ _ (kI_next hls (by omega) (by simp [setT,pvOf,partC,fnB,fnV, *]) ((h.below ((Bel.refl V).alloc _)).slice 19 20 5 (by decide) (.slice (some ⟨V.heap.size,0,none⟩) 1 1) ⟨V.heap.size,rfl,h.bel.size,Blk.new V _ _⟩))
  case s22 =>
   intro listed a V hun hdeps hI K hK
   obtain ⟨hls,t,rfl,h⟩:=hI
   have e1:=h.t1
   have e2:=h.t2
   have d21:listed.getD 21 false=true:=hdeps { on:=21,ground:=.data } (by simp) rfl
   have v21:=h.cs (21,21,2) (by decide) d21
   simp only [pvOf,partC] at v21
   go_simp
   exact hK.out _ _ (kI_next hls (by omega) (by simp [setT,pvOf,partC,fnB,fnV, *]) ((h.below ((Bel.refl V).alloc _)).slice 22 22 6 (by decide) (.slice (some ⟨V.heap.size,0,none⟩) 1 1) ⟨V.heap.size,rfl,h.bel.size,Blk.new V _ _⟩))
  case s4 =>
   intro listed a V hun hdeps hI K hK
   obtain ⟨hls,t,rfl,h⟩:=hI
   have e1:=h.t1
   have e2:=h.t2
   have d0:listed.getD 0 false=true:=hdeps { on:=0,ground:=.data } (by simp) rfl
   have d3:listed.getD 3 false=true:=hdeps { on:=3,ground:=.data } (by simp) rfl
   obtain ⟨m,f,e5,hmW,hmap,hf,hfi⟩:=h.mp d0
   have hv:=h.sl (3,8,1) (by decide) d3
   obtain ⟨w9,hrun,hm9,hg9⟩:=run_mapUpdate_map (P:=Tryz.prog) Tryz.underlying71 Tryz.underlying22 hmap 1 (t 8)
   have HFIN:=Lib.hid (h.ins 4 1 ⟨1,rfl,by decide⟩ d0 e5 hmW hf hfi hmap hv hm9 hg9)
   clear hm9 hg9 hv hf hfi hmap
   go_simp
   exact hK.out _ _ (kI_next hls (by omega) (by simp [setT,pvOf,partC,fnB,fnV, *]) HFIN.out)
  case s9 =>
   intro listed a V hun hdeps hI K hK
   obtain ⟨hls,t,rfl,h⟩:=hI
   have e1:=h.t1
   have e2:=h.t2
   have d0:listed.getD 0 false=true:=hdeps { on:=0,ground:=.data } (by simp) rfl
   have d8:listed.getD 8 false=true:=hdeps { on:=8,ground:=.data } (by simp) rfl
   obtain ⟨m,f,e5,hmW,hmap,hf,hfi⟩:=h.mp d0
   have hv:=h.sl (8,12,2) (by decide) d8
   obtain ⟨w9,hrun,hm9,hg9⟩:=run_mapUpdate_map (P:=Tryz.prog) Tryz.underlying71 Tryz.underlying22 hmap 2 (t 12)
   have HFIN:=Lib.hid (h.ins 9 2 ⟨2,rfl,by decide⟩ d0 e5 hmW hf hfi hmap hv hm9 hg9)
   clear hm9 hg9 hv hf hfi hmap
   go_simp
   exact hK.out _ _ (kI_next hls (by omega) (by simp [setT,pvOf,partC,fnB,fnV, *]) HFIN.out)
  case s13 =>
   intro listed a V hun hdeps hI K hK
   obtain ⟨hls,t,rfl,h⟩:=hI
   have e1:=h.t1
   have e2:=h.t2
   have d0:listed.getD 0 false=true:=hdeps { on:=0,ground:=.data } (by simp) rfl
   have d12:listed.getD 12 false=true:=hdeps { on:=12,ground:=.data } (by simp) rfl
   obtain ⟨m,f,e5,hmW,hmap,hf,hfi⟩:=h.mp d0
   have hv:=h.sl (12,15,3) (by decide) d12
   obtain ⟨w9,hrun,hm9,hg9⟩:=run_mapUpdate_map (P:=Tryz.prog) Tryz.underlying71 Tryz.underlying22 hmap 3 (t 15)
   have HFIN:=Lib.hid (h.ins 13 3 ⟨3,rfl,by decide⟩ d0 e5 hmW hf hfi hmap hv hm9 hg9)
   clear hm9 hg9 hv hf hfi hmap
   go_simp
   exact hK.out _ _ (kI_next hls (by omega) (by simp [setT,pvOf,partC,fnB,fnV, *]) HFIN.out)
  case s17 =>
   intro listed a V hun hdeps hI K hK
   obtain ⟨hls,t,rfl,h⟩:=hI
   have e1:=h.t1
   have e2:=h.t2
   have d0:listed.getD 0 false=true:=hdeps { on:=0,ground:=.data } (by simp) rfl
   have d16:listed.getD 16 false=true:=hdeps { on:=16,ground:=.data } (by simp) rfl
   obtain ⟨m,f,e5,hmW,hmap,hf,hfi⟩:=h.mp d0
   have hv:=h.sl (16,18,4) (by decide) d16
   obtain ⟨w9,hrun,hm9,hg9⟩:=run_mapUpdate_map (P:=Tryz.prog) Tryz.underlying71 Tryz.underlying22 hmap 4 (t 18)
   have HFIN:=Lib.hid (h.ins 17 4 ⟨4,rfl,by decide⟩ d0 e5 hmW hf hfi hmap hv hm9 hg9)
   clear hm9 hg9 hv hf hfi hmap
   go_simp
   exact hK.out _ _ (kI_next hls (by omega) (by simp [setT,pvOf,partC,fnB,fnV, *]) HFIN.out)
  case s20 =>
   intro listed a V hun hdeps hI K hK
   obtain ⟨hls,t,rfl,h⟩:=hI
   have e1:=h.t1
   have e2:=h.t2
   have d0:listed.getD 0 false=true:=hdeps { on:=0,ground:=.data } (by simp) rfl
   have d19:listed.getD 19 false=true:=hdeps { on:=19,ground:=.data } (by simp) rfl
   obtain ⟨m,f,e5,hmW,hmap,hf,hfi⟩:=h.mp d0
   have hv:=h.sl (19,20,5) (by decide) d19
   obtain ⟨w9,hrun,hm9,hg9⟩:=run_mapUpdate_map (P:=Tryz.prog) Tryz.underlying71 Tryz.underlying22 hmap 5 (t 20)
   have HFIN:=Lib.hid (h.ins 20 5 ⟨5,rfl,by decide⟩ d0 e5 hmW hf hfi hmap hv hm9 hg9)
   clear hm9 hg9 hv hf hfi hmap
   go_simp
   exact hK.out _ _ (kI_next hls (by omega) (by simp [setT,pvOf,partC,fnB,fnV, *]) HFIN.out)
  case s23 =>
   intro listed a V hun hdeps hI K hK
   obtain ⟨hls,t,rfl,h⟩:=hI
   have e1:=h.t1
   have e2:=h.t2
   have d0:listed.getD 0 false=true:=hdeps { on:=0,ground:=.data } (by simp) rfl
   have d22:listed.getD 22 false=true:=hdeps { on:=22,ground:=.data } (by simp) rfl
   obtain ⟨m,f,e5,hmW,hmap,hf,hfi⟩:=h.mp d0
   have hv:=h.sl (22,22,6) (by decide) d22
   obtain ⟨w9,hrun,hm9,hg9⟩:=run_mapUpdate_map (P:=Tryz.prog) Tryz.underlying71 Tryz.underlying22 hmap 6 (t 22)
   have HFIN:=Lib.hid (h.ins 23 6 ⟨6,rfl,by decide⟩ d0 e5 hmW hf hfi hmap hv hm9 hg9)
   clear hm9 hg9 hv hf hfi hmap
   go_simp
   exact hK.out _ _ (kI_next hls (by omega) (by simp [setT,pvOf,partC,fnB,fnV, *]) HFIN.out)
  case s24 =>
   intro listed a V hun hdeps hI K hK
   obtain ⟨hls,t,rfl,h⟩:=hI
   have e1:=h.t1
   have e2:=h.t2
   have d0:listed.getD 0 false=true:=hdeps { on:=0,ground:=.data } (by simp) rfl
   go_simp
   exact hK.out _ _ (kI_next hls (by omega) (by simp [setT,pvOf,partC,fnB,fnV, *]) (h.l24s d0))
  case s25 =>
   intro listed a V hun hdeps hI K hK
   obtain ⟨hls,t,rfl,h⟩:=hI
   have e1:=h.t1
   have e2:=h.t2
   have d24:listed.getD 24 false=true:=hdeps { on:=24,ground:=.data } (by simp) rfl
   have d0:=h.dep 24 (by decide) d24
   have e23:=h.l24 d24
   go_simp
   exact hK.out _ _ (kI_next hls (by omega) (by simp [setT,pvOf,partC,fnB,fnV, *]) (h.l25s d0 d24))
end
end Go.Proofs.YtnajjhgbombboaaGreatDoor
