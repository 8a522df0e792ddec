/-
  Texts behind the statement: part 42.
-/
import Derived.Test.YtnajjhgbombboaaGreatDoorP32
set_option linter.unusedVariables false
set_option linter.unusedSimpArgs false
namespace Go.Proofs.YtnajjhgbombboaaGreatDoor
section
open Go.ChangeShapes Go.WideShapes Go.RowKit
section
variable {H:Type} {enc:TypeId×Value→H} {w:World} {base:Nat} {spare:Nat→Bool} {held:Bool}
theorem events_read {fuel:Nat} {cs:List Value} {x:DataW H×List MemPlace} (h:DataW.trod enc Tryz.prog w base spare held fuel 48 cs=some x) :
  ∃ (A:Option Addr) (l:List Ev) (cap:Nat),cs=[.slice A l.length cap]∧EventsAt w (.slice A l.length cap) l∧(∀ e ∈ l,e.In):=by
 obtain ⟨A,n,cap,rfl,hn,hm,h0,hi⟩:=slice_read (sz:=8) Tryz.underlying48 (by kernel_rfl) (by omega) h
 obtain ⟨l,hl,hp⟩:=list_of (n:=n) (p:=fun i (x:Ev)=>(∀ b off,A=some ⟨b,off,none⟩→EvRow w b (off+i * 8) x)∧x.In) (fun i hin=>by
  obtain ⟨b,off,rfl,hb,hc⟩:=hi (by omega)
  obtain ⟨cs',fuel',y,hl,hcell,ht⟩:=hc i hin
  obtain ⟨e,vc,vk,vu,vo,vn,vs,rfl,ha,hin⟩:=event_cells ht
  refine ⟨e,fun b' off' e=>?_,hin⟩
  cases e
  exact ⟨vc,vk,vu,vo,vn,vs,ha,hcell 0 _ rfl,hcell 1 _ rfl,hcell 2 _ rfl,hcell 3 _ rfl,hcell 4 _ rfl,hcell 5 _ rfl,hcell 6 _ rfl,hcell 7 _ rfl⟩)
 subst hl
 refine ⟨A,l,cap,rfl,⟨A,cap,rfl,hn,hm,fun hn0=>?_⟩,fun x hx=>?_⟩
 ·obtain ⟨b,off,rfl,hb,-⟩:=hi hn0
  exact ⟨b,off,rfl,fun i x hx=>(hp i x hx).1 b off rfl⟩
 ·obtain ⟨i,hi⟩:=List.mem_iff_getElem?.1 hx
  exact (hp i x hi).2
end
end
section
open Go.RowKit Go.Shelf Go.Lib
attribute [local go_sem] Oper.semAt_some
def GivesAll (l:List Ev) (many:Nat) (w:World) (en:Ending) (w':World):Prop:=∃ b,en = .returned (.bool b)∧(b=true→l.length≤many ∧ ∀ x ∈ l,FewP x)∧Bel w w'
set_option maxRecDepth 100000 in
set_option maxHeartbeats 4000000 in
theorem l8all_any (vl:Value) (l:List Ev) (many:Nat) (hmany:many≤1000) (w:World) (hl:EventsAt w vl l) (hin : ∀ x ∈ l,x.In):Calls Tryz.prog 23 #[vl,.int .i64 many] w (GivesAll l many w):=by
 obtain ⟨A,c,rfl,hc,hm,hra⟩:=hl
 have HRA:=Lib.hid hra
 have HIN:=Lib.hid hin
 have hlI:(l.length:Int)≤9223372036854775807:=by unfold maxLen at hm;omega
 have hmI:(many:Int)≤1000:=by omega
 clear hra hin hc hm
 go_enter Tryz.func23,Tryz.ntmps23
 go_wp2
 go_loopw [5] (fun i wr=>∃ k:Nat,k≤l.length∧k≤many+1∧i = .int .i64 k∧Hid (Bel w wr)∧Hid (∀ x ∈ l.take k,FewP x)) (fun i _=>many+1 - (intOf i).toNat)
 case atStart=>exact ⟨0,Nat.zero_le _,Nat.zero_le _,rfl,Bel.refl w,fun x hx=>by simp at hx⟩
 case round =>
  obtain ⟨k,hk,hk2,rfl,HB,HT⟩:=hrel
  by_cases hlt:k<l.length∧k≤many
  ·obtain ⟨x,hx⟩ : ∃ x,l[k]? = some x:=⟨_,List.getElem?_eq_getElem hlt.1⟩
   obtain ⟨b,off,rfl,hi⟩:=HRA.out (by omega)
   obtain ⟨vc,vk,vu,vo,vn,vs,hat,q0,q1,q2,q3,q4,q5,q6,q7⟩:=hi k x hx
   obtain ⟨Ac,cc,Ak,ck,Au,cu,Ao,co,An,cn,As,cs,rfl,rfl,rfl,rfl,rfl,rfl⟩:=hat.opened
   have c0:=HB.out.c q0
   have c1:=HB.out.c q1
   have c2:=HB.out.c q2
   have c3:=HB.out.c q3
   have c4:=HB.out.c q4
   have c5:=HB.out.c q5
   have c6:=HB.out.c q6
   have c7:=HB.out.c q7
   have hkI:(k:Int)<l.length:=by omega
   have hkJ:(k:Int)≤many:=by omega
   have HF:=Lib.hid (l8few_any x _ _ _ _ _ _ wr (hat.bel HB.out) (HIN.out x (List.mem_of_getElem? hx)))
   have HNX:Hid (FewP x → ∀ y ∈ l.take (k+1),FewP y):=Lib.hid (fun h y hy=>by
    rw [List.take_add_one,hx] at hy
    rcases List.mem_append.1 hy with hy | hy
    ·exact HT.out y hy
    ·simp at hy;subst hy;exact h)
   have HLT:=Lib.hid hlt
   unfold evV at HF
   clear hi hx hat q0 q1 q2 q3 q4 q5 q6 q7 hlt hk hk2
   go_wp2_with fail
   refine HF.out.mono ?_
   rintro e1 w1 ⟨f,rfl,hf,hb1⟩
   have HB1:=Lib.hid (HB.out.then_ hb1)
   cases f with
   | false =>
     clear hb1 HF
     go_wp2
     go_ret
     exact ⟨false,rfl,(fun h=>by cases h),HB1.out⟩
   | true =>
     have HNY:=Lib.hid (HNX.out (hf rfl))
     clear hb1 HF hf
     go_wp2
     go_roundw
     case rel=>exact ⟨k+1,by have:=HLT.out;omega,by have:=HLT.out;omega,by go_num,HB1.out,HNY.out⟩
     case measure=>have:=HLT.out;simp [intOf];omega
  ·by_cases hL:l.length≤many
   ·obtain rfl:k=l.length:=by omega
    have hT:=HT.out
    rw [List.take_length] at hT
    have HTT:=Lib.hid hT
    have hLI:(l.length:Int)≤many:=by omega
    have HL:=Lib.hid hL
    clear hlt hk hk2 hL hT HT
    go_wp2
    go_ret
    exact ⟨true,rfl,fun _=>⟨HL.out,HTT.out⟩,HB.out⟩
   ·have hkm : ¬ (k:Int)≤many:=by omega
    have hLI:(many:Int)<l.length:=by omega
    have hLJ:(k:Int)<l.length ∨ ¬ (k:Int)<l.length:=by omega
    have hdd:decide ((l.length:Int)≤many)=false:=decide_eq_false (by omega)
    have hde:decide ((k:Int)≤many)=false:=decide_eq_false hkm
    have hLK : ¬ (l.length:Int)≤many:=by omega
    clear hlt hk hk2 hL
    rcases hLJ with hLJ | hLJ
    all_goals
     go_wp2
     go_ret
     exact ⟨false,by first | rfl | simp [hdd],(fun h=>by cases h),HB.out⟩
end
end Go.Proofs.YtnajjhgbombboaaGreatDoor
