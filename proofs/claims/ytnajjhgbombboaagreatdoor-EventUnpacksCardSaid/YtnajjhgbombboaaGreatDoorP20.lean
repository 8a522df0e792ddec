/-
  Texts behind the statement: part 20.
-/
import Derived.Test.YtnajjhgbombboaaGreatDoorP19
import Derived.Deep.RegionHeld3
set_option linter.unusedVariables false
set_option linter.unusedSimpArgs false
namespace Go.Proofs.YtnajjhgbombboaaGreatDoor
section
open Go.RowKit Go.Shelf Go.Lib
attribute [local go_sem] Oper.semAt_some
def fnV (f:Nat):Value:=.func (.func f) #[] #[]
def fnB (f b:Nat):Value:=.func (.func f) #[] #[.pointer (some ⟨b,0,none⟩)]
theorem emay_table (e:Ev) (vc vk vu vo vn vs:Value) (w:World) (hg:ErrType w) (h:EvAt w vc vk vu vo vn vs e):Calls Tryz.prog 99 #[evV e.k e.t vc vk vu vo vn vs] w fun en w'=>en = .returned (.bool (mayP e 0))∧Bel w w':=by
 have hm:mayP e 0=namedB e.t:=rfl
 rw [hm]
 have HN:=Lib.hid (fun V (hb:Bel w V)=>enamed_any e.t V (hg.bel hb))
 obtain ⟨Ac,cc,Ak,ck,Au,cu,Ao,co,An,cn,As,cs,rfl,rfl,rfl,rfl,rfl,rfl⟩:=h.opened
 clear h hg hm
 obtain ⟨k,t,c,ky,u,o,n,ns⟩:=e
 unfold evV
 dsimp only at *
 go_enter Tryz.func99,Tryz.ntmps99
 go_wp2_with (go_at_call 100;refine (HN.out _ ((Bel.refl w).alloc _)).mono ?_;rintro e1 w1 ⟨rfl,hb1⟩)
 go_ret
 exact ⟨rfl,((Bel.refl w).alloc _).then_ hb1⟩
set_option maxRecDepth 100000 in
theorem emay_shape (e:Ev) (vc vk vu vo vn vs:Value) (w:World) (h:EvAt w vc vk vu vo vn vs e):Calls Tryz.prog 103 #[evV e.k e.t vc vk vu vo vn vs] w fun en w'=>en = .returned (.bool (mayP e 1))∧Bel w w':=by
 have hm:mayP e 1=rightS e.c e.ky e.u:=rfl
 rw [hm]
 have HN:=Lib.hid (fun V (hb:Bel w V)=>scCheck_any vc vk vu e.c e.ky e.u V (h.c.bel hb) (h.ky.bel hb) (h.u.bel hb))
 obtain ⟨Ac,cc,Ak,ck,Au,cu,Ao,co,An,cn,As,cs,rfl,rfl,rfl,rfl,rfl,rfl⟩:=h.opened
 clear h hm
 obtain ⟨k,t,c,ky,u,o,n,ns⟩:=e
 unfold evV
 dsimp only at *
 cases hr:rightS c ky u with
 | false =>
   rw [hr] at HN
   simp only [Bool.false_eq_true,if_false] at HN
   clear hr
   go_enter Tryz.func103,Tryz.ntmps103
   go_wp2_with (go_at_call 104;refine (HN.out _ ((Bel.refl w).alloc _)).mono ?_;rintro e1 w1 ⟨rfl,hb1⟩)
   go_ret
   exact ⟨rfl,((Bel.refl w).alloc _).then_ hb1⟩
 | true =>
   rw [hr] at HN
   simp only [if_true] at HN
   clear hr
   go_enter Tryz.func103,Tryz.ntmps103
   go_wp2_with (go_at_call 104;refine (HN.out _ ((Bel.refl w).alloc _)).mono ?_;rintro e1 w1 ⟨rfl,hb1⟩)
   go_ret
   exact ⟨rfl,((Bel.refl w).alloc _).then_ hb1⟩
theorem enamesC_any (p:ByteArray×ByteArray) (w:World) (hg:ErrType w):Calls Tryz.prog 111 #[pairV p] w fun en w'=>en = .returned (.bool (!nameP p))∧Bel w w':=by
 have HN:=Lib.hid (fun (s:ByteArray) V (hb:Bel w V)=>enamed_any s V (hg.bel hb))
 obtain ⟨a,b⟩:=p
 unfold pairV nameP
 dsimp only
 clear hg
 have HA:=Lib.hid (fun V (hb:Bel w V)=>HN.out a V hb)
 have HB:=Lib.hid (fun V (hb:Bel w V)=>HN.out b V hb)
 clear HN
 cases ha:namedB a with
 | false =>
   rw [ha] at HA
   go_enter Tryz.func111,Tryz.ntmps111
   go_wp2_with (go_at_call 100;refine (HA.out _ ((Bel.refl w).alloc _)).mono ?_;rintro e1 w1 ⟨rfl,hb1⟩)
   go_ret
   exact ⟨rfl,((Bel.refl w).alloc _).then_ hb1⟩
 | true =>
   rw [ha] at HA
   go_enter Tryz.func111,Tryz.ntmps111
   go_wp2_with fail
   refine (HA.out _ ((Bel.refl w).alloc _)).mono ?_
   rintro e1 w1 ⟨rfl,hb1⟩
   have hc0:w1.cell? ⟨w.heap.size,0,none⟩=some (.string a):=hb1.c (by go_simp)
   have hc1:w1.cell? ⟨w.heap.size,1,none⟩=some (.string b):=hb1.c (by go_simp)
   have HBB:=Lib.hid (((Bel.refl w).alloc _).then_ hb1)
   clear hb1
   go_wp2_with fail
   refine (HB.out _ HBB.out).mono ?_
   rintro e1 w2 ⟨rfl,hb2⟩
   go_wp2
   go_ret
   exact ⟨by cases namedB b <;> rfl,HBB.out.then_ hb2⟩
theorem emay_names (e:Ev) (vc vk vu vo vn vs:Value) (w:World) (hg:ErrType w) (h:EvAt w vc vk vu vo vn vs e):Calls Tryz.prog 109 #[evV e.k e.t vc vk vu vo vn vs] w fun en w'=>en = .returned (.bool (mayP e 2))∧Bel w w':=by
 have hm:mayP e 2=(decide (1≤e.ns.length∧e.ns.length≤4) && e.ns.all nameP):=rfl
 rw [hm]
 have HN:=Lib.hid (fun V (hb:Bel w V)=>slContainsFuncPair_any 111 #[] (enters_of Tryz.func111 (by kernel_rfl) rfl) (fun p=>!nameP p) vs e.ns V (h.ns.bel hb) (fun W hW x hx=>enamesC_any x W (hg.bel (hb.then_ hW))))
 have hany:e.ns.any (fun p=>!nameP p) = !(e.ns.all nameP):=by rw [List.all_eq_not_any_not];simp
 rw [hany] at HN
 obtain ⟨Ac,cc,Ak,ck,Au,cu,Ao,co,An,cn,As,cs,rfl,rfl,rfl,rfl,rfl,rfl⟩:=h.opened
 clear h hg hm hany
 obtain ⟨k,t,c,ky,u,o,n,ns⟩:=e
 unfold evV
 dsimp only at *
 obtain ⟨R,hR⟩ : ∃ R,R=ns.all nameP:=⟨_,rfl⟩
 rw [← hR] at HN ⊢
 clear hR
 by_cases h1 : 1≤ns.length
 ·have h1I:(1:Int)≤ns.length:=by omega
  by_cases h4:ns.length≤4
  ·have h4I:(ns.length:Int)≤4:=by omega
   have hd:decide (1≤ns.length∧ns.length≤4)=true:=decide_eq_true ⟨h1,h4⟩
   rw [hd,Bool.true_and]
   clear hd h1 h4
   go_enter Tryz.func109,Tryz.ntmps109
   go_wp2_with (go_at_call 110;refine (HN.out _ ((Bel.refl w).alloc _)).mono ?_;rintro e1 w1 ⟨rfl,hb1⟩)
   go_ret
   exact ⟨by cases R <;> rfl,((Bel.refl w).alloc _).then_ hb1⟩
  ·have h4I:decide ((ns.length:Int)≤4)=false:=by simp;omega
   have h4N:decide (ns.length≤4)=false:=by simp;omega
   have h4J:(4:Int)<ns.length:=by omega
   have hd:decide (1≤ns.length∧ns.length≤4)=false:=by simp;omega
   rw [hd,Bool.false_and]
   clear hd h1 h4
   go_enter Tryz.func109,Tryz.ntmps109
   go_wp2
   go_ret
   exact ⟨rfl,(Bel.refl w).alloc _⟩
 ·have h1N:ns.length=0:=by omega
  rw [h1N]
  clear h1
  go_enter Tryz.func109,Tryz.ntmps109
  go_wp2
  go_ret
  exact ⟨rfl,(Bel.refl w).alloc _⟩
theorem erowMC_any (x:Val) (w:World):Calls Tryz.prog 93 #[x.v] w fun en w'=>en = .returned (.bool (!decide (checkI x=0)))∧Bel w w':=by
 have HV:=Lib.hid (fun V=>vCheck_any x V)
 obtain ⟨R,hR⟩ : ∃ R,R=checkI x:=⟨_,rfl⟩
 rw [← hR] at HV ⊢
 clear hR
 obtain ⟨k,n,u,b⟩:=x
 unfold Val.v at *
 dsimp only at *
 by_cases h0:R=0
 ·subst h0
  go_enter Tryz.func93,Tryz.ntmps93
  go_wp2_with (go_at_call 94;refine (HV.out _).mono ?_;rintro e1 w1 ⟨rfl,hb1⟩)
  go_ret
  exact ⟨rfl,((Bel.refl w).alloc _).then_ hb1⟩
 ·have h0b:(R != 0)=true:=by rw [bne_iff_ne];exact h0
  have h0d:decide (R=0)=false:=decide_eq_false h0
  rw [h0d]
  go_enter Tryz.func93,Tryz.ntmps93
  go_wp2_with (go_at_call 94;refine (HV.out _).mono ?_;rintro e1 w1 ⟨rfl,hb1⟩)
  go_ret
  exact ⟨rfl,((Bel.refl w).alloc _).then_ hb1⟩
theorem eat_old (B:Nat) (w:World):Calls Tryz.prog 59 #[.pointer (some ⟨B,0,none⟩)] w fun en w'=>en = .returned (.pointer (some ⟨B,5,none⟩))∧w=w':=by
 go_enter Tryz.func59,Tryz.ntmps59
 go_wp2
 go_ret
 exact ⟨rfl,rfl⟩
theorem emay_old (bx:Nat) (e:Ev) (vc vk vu vo vn vs:Value) (w:World) (hx:Blk w bx 115 #[fnV 59]) (h:EvAt w vc vk vu vo vn vs e):Calls Tryz.prog 91 #[evV e.k e.t vc vk vu vo vn vs,.pointer (some ⟨bx,0,none⟩)] w fun en w'=>en = .returned (.bool (mayP e 3))∧Bel w w':=by
 have hm:mayP e 3=(decide (1≤e.o.length∧e.o.length≤8) && e.o.all (fun x=>decide (checkI x=0))):=rfl
 rw [hm]
 have HN:=Lib.hid (fun V (hb:Bel w V)=>slContainsFuncVal_any 93 #[] (enters_of Tryz.func93 (by kernel_rfl) rfl) (fun x=>!decide (checkI x=0)) vo e.o V (h.o.bel hb) (fun W hW x hx=>erowMC_any x W))
 have hany:e.o.any (fun x=>!decide (checkI x=0)) = !(e.o.all (fun x=>decide (checkI x=0))):=by rw [List.all_eq_not_any_not];simp
 rw [hany] at HN
 have HX:=Lib.hid hx
 obtain ⟨Ac,cc,Ak,ck,Au,cu,Ao,co,An,cn,As,cs,rfl,rfl,rfl,rfl,rfl,rfl⟩:=h.opened
 clear h hm hany hx
 obtain ⟨k,t,c,ky,u,o,n,ns⟩:=e
 unfold evV
 dsimp only at *
 obtain ⟨R,hR⟩ : ∃ R,R=o.all (fun x=>decide (checkI x=0)):=⟨_,rfl⟩
 rw [← hR] at HN ⊢
 clear hR
 have HAT:=Lib.hid (fun B V=>eat_old B V)
 have hcx:w.cell? ⟨bx,0,none⟩=some (.func (.func 59) #[] #[]):=HX.out.cell 0
 have hxl:bx<w.heap.size:=HX.out.lt
 by_cases h1 : 1≤o.length
 ·have h1I:(1:Int)≤o.length:=by omega
  by_cases h4:o.length≤8
  ·have h4I:(o.length:Int)≤8:=by omega
   have hd:decide (1≤o.length∧o.length≤8)=true:=decide_eq_true ⟨h1,h4⟩
   rw [hd,Bool.true_and]
   clear hd h1 h4
   go_enter Tryz.func91,Tryz.ntmps91
   go_wp2_with (first | (go_at_call 59;refine (HAT.out _ _).mono ?_;rintro e1 w1 ⟨rfl,rfl⟩) | (go_at_call 92;refine (HN.out _ ((Bel.refl w).alloc _)).mono ?_;rintro e1 w1 ⟨rfl,hb1⟩))
   go_ret
   exact ⟨by cases R <;> rfl,((Bel.refl w).alloc _).then_ hb1⟩
  ·have h4I:decide ((o.length:Int)≤8)=false:=by simp;omega
   have h4N:decide (o.length≤8)=false:=by simp;omega
   have h4J:(8:Int)<o.length:=by omega
   have hd:decide (1≤o.length∧o.length≤8)=false:=by simp;omega
   rw [hd,Bool.false_and]
   clear hd h1 h4
   go_enter Tryz.func91,Tryz.ntmps91
   go_wp2_with (go_at_call 59;refine (HAT.out _ _).mono ?_;rintro e1 w1 ⟨rfl,rfl⟩)
   go_ret
   exact ⟨rfl,(Bel.refl w).alloc _⟩
 ·have h1N:o.length=0:=by omega
  rw [h1N]
  clear h1
  go_enter Tryz.func91,Tryz.ntmps91
  go_wp2_with (go_at_call 59;refine (HAT.out _ _).mono ?_;rintro e1 w1 ⟨rfl,rfl⟩)
  go_ret
  exact ⟨rfl,(Bel.refl w).alloc _⟩
theorem eat_new (B:Nat) (w:World):Calls Tryz.prog 60 #[.pointer (some ⟨B,0,none⟩)] w fun en w'=>en = .returned (.pointer (some ⟨B,6,none⟩))∧w=w':=by
 go_enter Tryz.func60,Tryz.ntmps60
 go_wp2
 go_ret
 exact ⟨rfl,rfl⟩
theorem emay_new (bx:Nat) (e:Ev) (vc vk vu vo vn vs:Value) (w:World) (hx:Blk w bx 115 #[fnV 60]) (h:EvAt w vc vk vu vo vn vs e):Calls Tryz.prog 91 #[evV e.k e.t vc vk vu vo vn vs,.pointer (some ⟨bx,0,none⟩)] w fun en w'=>en = .returned (.bool (mayP e 4))∧Bel w w':=by
 have hm:mayP e 4=(decide (1≤e.n.length∧e.n.length≤8) && e.n.all (fun x=>decide (checkI x=0))):=rfl
 rw [hm]
 have HN:=Lib.hid (fun V (hb:Bel w V)=>slContainsFuncVal_any 93 #[] (enters_of Tryz.func93 (by kernel_rfl) rfl) (fun x=>!decide (checkI x=0)) vn e.n V (h.n.bel hb) (fun W hW x hx=>erowMC_any x W))
 have hany:e.n.any (fun x=>!decide (checkI x=0)) = !(e.n.all (fun x=>decide (checkI x=0))):=by rw [List.all_eq_not_any_not];simp
 rw [hany] at HN
 have HX:=Lib.hid hx
 obtain ⟨Ac,cc,Ak,ck,Au,cu,Ao,co,An,cn,As,cs,rfl,rfl,rfl,rfl,rfl,rfl⟩:=h.opened
 clear h hm hany hx
 obtain ⟨k,t,c,ky,u,o,n,ns⟩:=e
 unfold evV
 dsimp only at *
 obtain ⟨R,hR⟩ : ∃ R,R=n.all (fun x=>decide (checkI x=0)):=⟨_,rfl⟩
 rw [← hR] at HN ⊢
 clear hR
 have HAT:=Lib.hid (fun B V=>eat_new B V)
 have hcx:w.cell? ⟨bx,0,none⟩=some (.func (.func 60) #[] #[]):=HX.out.cell 0
 have hxl:bx<w.heap.size:=HX.out.lt
 by_cases h1 : 1≤n.length
 ·have h1I:(1:Int)≤n.length:=by omega
  by_cases h4:n.length≤8
  ·have h4I:(n.length:Int)≤8:=by omega
   have hd:decide (1≤n.length∧n.length≤8)=true:=decide_eq_true ⟨h1,h4⟩
   rw [hd,Bool.true_and]
   clear hd h1 h4
   go_enter Tryz.func91,Tryz.ntmps91
   go_wp2_with (first | (go_at_call 60;refine (HAT.out _ _).mono ?_;rintro e1 w1 ⟨rfl,rfl⟩) | (go_at_call 92;refine (HN.out _ ((Bel.refl w).alloc _)).mono ?_;rintro e1 w1 ⟨rfl,hb1⟩))
   go_ret
   exact ⟨by cases R <;> rfl,((Bel.refl w).alloc _).then_ hb1⟩
  ·have h4I:decide ((n.length:Int)≤8)=false:=by simp;omega
   have h4N:decide (n.length≤8)=false:=by simp;omega
   have h4J:(8:Int)<n.length:=by omega
   have hd:decide (1≤n.length∧n.length≤8)=false:=by simp;omega
   rw [hd,Bool.false_and]
   clear hd h1 h4
   go_enter Tryz.func91,Tryz.ntmps91
   go_wp2_with (go_at_call 60;refine (HAT.out _ _).mono ?_;rintro e1 w1 ⟨rfl,rfl⟩)
   go_ret
   exact ⟨rfl,(Bel.refl w).alloc _⟩
 ·have h1N:n.length=0:=by omega
  rw [h1N]
  clear h1
  go_enter Tryz.func91,Tryz.ntmps91
  go_wp2_with (go_at_call 60;refine (HAT.out _ _).mono ?_;rintro e1 w1 ⟨rfl,rfl⟩)
  go_ret
  exact ⟨rfl,(Bel.refl w).alloc _⟩
end
section
open Go
section
variable {P:Program} {ops:Array Oper} {Q:Exit→Act→World→Prop} {md:Region.Mode}
def nLeft (ops:Array Oper) (listed:Array Bool):Nat:=((List.range ops.size).filter fun i=>!listed.getD i false).length
def StepAll (P:Program) (md:Region.Mode) (ops:Array Oper) (Q:Exit→Act→World→Prop) (I:Array Bool→Act→World→Prop) (rs:List Nat):Prop :=
 ∀ i ∈ rs,∀ listed a w,listed.getD i false=false→(∀ o e,ops[i]? = some o→e ∈ o.after→Region.binds md e=true→listed.getD e.on false=true)→I listed a w→wpOp P ops Q i (I (listed.setIfInBounds i true)) a w
theorem StepAll.nil {I:Array Bool→Act→World→Prop} : StepAll P md ops Q I []:=fun _ h=>by cases h
theorem StepAll.cons {I:Array Bool→Act→World→Prop} {i:Nat} {o:Oper} {rs:List Nat} (ho:ops[i]? = some o)
  (h : ∀ listed a w,listed.getD i false=false→(∀ e ∈ o.after,Region.binds md e=true→listed.getD e.on false=true)→I listed a w → ∀ K':Act→World→Prop,Shut (∀ a w,I (listed.setIfInBounds i true) a w→K' a w)→if Region.wanted o (yielded ops a.tmps)=true then Oper.wp P o a w K' Q else K' (a.put o.dst undef) w)
  (hs:StepAll P md ops Q I rs):StepAll P md ops Q I (i :: rs):=fun j hj=>by
 rcases List.mem_cons.1 hj with rfl | hj
 ·intro listed a w hun hd hI
  exact wpOp_step ho (fun K' hK=>h listed a w hun (fun e he hb=>hd o e ho he hb) hI K' (fun a w hi=>hK a w hi))
 ·exact hs j hj
theorem nLeft_set {listed:Array Bool} {i:Nat} (hi:i<ops.size) (hl:listed.size=ops.size) (hun:listed.getD i false=false):nLeft ops (listed.setIfInBounds i true)<nLeft ops listed:=by
 unfold nLeft
 have hg : ∀ j,(listed.setIfInBounds i true).getD j false=if j=i then true else listed.getD j false:=fun j=>by
  by_cases hj:j=i
  ·subst hj;simp [hl,hi]
  ·rw [if_neg hj];simp [Array.getElem?_setIfInBounds,Ne.symm hj]
 have hsub : ∀ (l:List Nat),(l.filter fun j=>!(listed.setIfInBounds i true).getD j false).length≤(l.filter fun j=>!listed.getD j false).length∧(i ∈ l→(l.filter fun j=>!(listed.setIfInBounds i true).getD j false).length<(l.filter fun j=>!listed.getD j false).length):=by
  intro l
  induction l with
  | nil=>simp
  | cons x l ih =>
    by_cases hx:x=i
    ·subst hx
     have e1:(!(listed.setIfInBounds x true).getD x false)=false:=by rw [hg,if_pos rfl];rfl
     have e2:(!listed.getD x false)=true:=by rw [hun];rfl
     rw [List.filter_cons_of_neg (by rw [e1];simp),List.filter_cons_of_pos (by rw [e2]),List.length_cons]
     exact ⟨by have:=ih.1;omega,fun _=>by have:=ih.1;omega⟩
    ·have e1:(!(listed.setIfInBounds i true).getD x false)=(!listed.getD x false):=by rw [hg,if_neg hx]
     by_cases hc:(!listed.getD x false)=true
     ·rw [List.filter_cons_of_pos (by rw [e1,hc]),List.filter_cons_of_pos (by rw [hc]),List.length_cons,List.length_cons]
      exact ⟨by have:=ih.1;omega,fun hm=>by have:=ih.2 ((List.mem_cons.1 hm).resolve_left (fun e=>hx e.symm));omega⟩
     ·rw [List.filter_cons_of_neg (p:=fun j=>!(listed.setIfInBounds i true).getD j false) (by rw [e1];exact hc),List.filter_cons_of_neg (p:=fun j=>!listed.getD j false) hc]
      exact ⟨ih.1,fun hm=>ih.2 ((List.mem_cons.1 hm).resolve_left (fun e=>hx e.symm))⟩
 exact (hsub _).2 (List.mem_range.2 hi)
theorem ready_none {listed:Array Bool} (hl:listed.size=ops.size) (hord : ∀ (i:Nat) (o:Oper),ops[i]? = some o → ∀ e ∈ o.after,e.on<i) (hr:Region.ready md ops listed=[]) : ∀ i,i<ops.size→listed.getD i false=true:=by
 intro i
 induction i using Nat.strongRecOn with
 | ind i ih =>
   intro hi
   cases hx:listed.getD i false with
   | true=>rfl
   | false =>
     exfalso
     have:i ∈ Region.ready md ops listed:=by
      unfold Region.ready
      rw [List.mem_filter]
      refine ⟨List.mem_range.2 hi,?_⟩
      have ho:ops[i]? = some ops[i]:=Array.getElem?_eq_getElem hi
      have h1:listed.getD i true=false:=by
       rw [Array.getD_eq_getD_getElem?,Array.getElem?_eq_getElem (by omega)] at hx ⊢
       exact hx
      rw [h1,ho]
      simp only [Option.map_some,Option.getD_some,Bool.not_false,Bool.true_and]
      rw [Array.all_eq_true_iff_forall_mem]
      intro e he
      have hlt:=hord i ops[i] ho e he
      rw [ih e.on hlt (by omega)]
      simp
     rw [hr] at this
     cases this
theorem ready_all {listed:Array Bool} (hl:listed.size=ops.size) (h : ∀ i,i<ops.size→listed.getD i false=true):Region.ready md ops listed=[]:=by
 unfold Region.ready
 rw [List.filter_eq_nil_iff]
 intro i hi
 have:=h i (List.mem_range.1 hi)
 have h1:listed.getD i true=true:=by
  rw [Array.getD_eq_getD_getElem?,Array.getElem?_eq_getElem (by have:=List.mem_range.1 hi;omega)] at this ⊢
  exact this
 rw [h1]
 simp
theorem wpAny_inv {I:Array Bool→Act→World→Prop} (hord : ∀ (i:Nat) (o:Oper),ops[i]? = some o → ∀ e ∈ o.after,e.on<i) (hsz : ∀ listed a w,I listed a w→listed.size=ops.size)
  (hstep:StepAll P md ops Q I (List.range ops.size)) (hdone : ∀ listed a w,I listed a w→(∀ i,i<ops.size→listed.getD i false=true)→Q .normal a w) :
  ∀ (fuel:Nat) (listed:Array Bool) (a:Act) (w:World),nLeft ops listed≤fuel→I listed a w→wpAny P md ops Q fuel listed a w:=by
 intro fuel
 induction fuel with
 | zero =>
   intro listed a w hn hI
   have hall : ∀ i,i<ops.size→listed.getD i false=true:=fun i hi=>by
    cases hx:listed.getD i false with
    | true=>rfl
    | false =>
      exfalso
      have:=nLeft_set (ops:=ops) hi (hsz _ _ _ hI) hx
      omega
   exact ⟨ready_all (hsz _ _ _ hI) hall,hdone _ _ _ hI hall⟩
 | succ fuel ih =>
   intro listed a w hn hI
   refine ⟨fun hr=>hdone _ _ _ hI (ready_none (hsz _ _ _ hI) hord hr),fun i hi=>?_⟩
   obtain ⟨hun,o,ho,hall⟩:=mem_ready.1 hi
   have hil:i<ops.size:=(Array.getElem?_eq_some_iff.1 ho).1
   have hun':listed.getD i false=false:=by
    have hl:=hsz _ _ _ hI
    rw [Array.getD_eq_getD_getElem?,Array.getElem?_eq_getElem (by omega)] at hun ⊢
    exact hun
   refine wpOp_mono (fun a' w' h'=>ih _ a' w' ?_ h') (hstep i (List.mem_range.2 hil) listed a w hun' (fun o' e ho' he hb=>?_) hI)
   ·have:=nLeft_set (ops:=ops) hil (hsz _ _ _ hI) hun'
    omega
   ·rw [ho] at ho'
    cases ho'
    exact hall e he hb
theorem wp_region_inv {id:Nat} {a:Act} {w:World} (I:Array Bool→Act→World→Prop) (rs:List Nat) (hrs:List.range ops.size=rs) (hm:P.follows .mixedOrders=true)
  (hord:(List.range ops.size).all (fun i=>match ops[i]? with | some o=>o.after.all (fun e=>decide (e.on<i)) | none=>true)=true)
  (hsz : ∀ listed a w,I listed a w→listed.size=ops.size) (h0:I (Array.replicate ops.size false) a w.drew)
  (hstep:StepAll P .any ops Q I rs) (hdone : ∀ listed a w,I listed a w→(∀ i,i<ops.size→listed.getD i false=true)→Q .normal a w):(Code.region id ops true).wp P Q a w:=by
 subst hrs
 refine wp_region_any hm (wpAny_inv (I:=I) (fun i o ho e he=>?_) hsz hstep hdone _ _ _ _ ?_ h0)
 ·have hi:=(Array.getElem?_eq_some_iff.1 ho).1
  have:=List.all_eq_true.1 hord i (List.mem_range.2 hi)
  rw [ho] at this
  dsimp only at this
  exact of_decide_eq_true ((Array.all_eq_true_iff_forall_mem.1 this) e he)
 ·unfold nLeft
  exact Nat.le_trans (List.length_filter_le _ _) (by simp)
end
end
end Go.Proofs.YtnajjhgbombboaaGreatDoor
