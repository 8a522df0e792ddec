/-
  Texts behind the statement: part 52.
-/
import Derived.Test.YtnajjhgbombboaaGreatDoorP51
import Derived.Laws.MakeOwn
set_option linter.unusedVariables false
set_option linter.unusedSimpArgs false
namespace Go.Proofs.YtnajjhgbombboaaGreatDoor
section
open Go.ChangeShapes Go.WideShapes Go.RowKit
section
variable {H:Type} {enc:TypeId×Value→H} {w:World} {base:Nat} {spare:Nat→Bool} {held:Bool}
theorem bytes_read {fuel:Nat} {cs:List Value} {x:DataW H×List MemPlace} (h:DataW.trod enc Tryz.prog w base spare held fuel 34 cs=some x) :
  ∃ (A:Option Addr) (s:List UInt8) (cap:Nat),cs=[.slice A s.length cap]∧BsAt w (.slice A s.length cap) s:=by
 obtain ⟨A,n,cap,rfl,hn,hm,h0,hi⟩:=slice_read (sz:=1) Tryz.underlying34 (by kernel_rfl) (by omega) h
 obtain ⟨s,hs,hp⟩:=list_of (n:=n) (p:=fun i c=>∀ b off,A=some ⟨b,off,none⟩→w.cell? ⟨b,off+i,none⟩=some (bv c)) (fun i hin=>by
  obtain ⟨b,off,rfl,hb,hc⟩:=hi (by omega)
  obtain ⟨cs',fuel',y,hl,hcell,ht⟩:=hc i hin
  obtain ⟨m,rfl,-,hwf⟩:=DataW.trod_int Tryz.underlying5 ht
  refine ⟨UInt8.ofNat m.toNat,fun b' off' e=>?_⟩
  cases e
  have:=hcell 0 _ rfl
  rw [Nat.mul_one,Nat.add_zero] at this
  rw [this]
  have hr : 0≤m∧m<256:=by
   have:=hwf
   simp [Lit.wf,IntKind.min,IntKind.max,IntKind.bits,IntKind.signed] at this
   omega
  unfold bv
  congr 2
  rw [UInt8.toNat_ofNat',Nat.mod_eq_of_lt (by omega)]
  omega)
 subst hs
 refine ⟨A,s,cap,rfl,A,cap,rfl,hn,hm,by simp,fun hn=>?_⟩
 obtain ⟨b,off,rfl,hb,-⟩:=hi hn
 refine ⟨_,rfl,hb,fun j u hu=>?_⟩
 rw [List.getElem?_map] at hu
 obtain ⟨c,hc,rfl⟩:=Option.map_eq_some_iff.1 hu
 rw [add_free]
 exact hp j c hc b off rfl
end
end
section
open Go.RowKit Go.Shelf Go.Lib
attribute [local go_sem] Oper.semAt_some
theorem UD.setR {w V:World} {b4:Nat} {vB:Value} {bad:Bool} (h:UD w b4 V vB bad) (v:Value) (b:Bool):UD w b4 ((V.setCell ⟨b4,0,none⟩ v).setCell ⟨b4,1,none⟩ (.bool b)) v b :=
 ⟨(h.bel.setCell h.le _).setCell h.le _,(h.rd.set_ 0 v).set_ 1 (.bool b),h.le⟩
theorem UD.facts {w V:World} {b4:Nat} {vB:Value} {bad:Bool} (h:UD w b4 V vB bad):V.cell? ⟨b4,0,none⟩=some vB∧V.cell? ⟨b4,1,none⟩=some (.bool bad)∧V.frozen? ⟨b4,0,none⟩=false∧V.frozen? ⟨b4,1,none⟩=false∧b4<V.heap.size :=
 ⟨(h.rd.cell 0).trans rfl,(h.rd.cell 1).trans rfl,h.rd.frozen 0,h.rd.frozen 1,h.rd.lt⟩
end
section
open Go.RowKit Go.Shelf Go.Lib
attribute [local go_sem] Oper.semAt_some
theorem MadeAt.facts {w3 wr:World} {k i:Nat} (h:MadeAt w3 wr k i) (hi:i<k):(∀ c,c<8 → ∃ z,wr.cell? ⟨w3.heap.size,i * 8+c,none⟩=some z)∧(∀ c,wr.frozen? ⟨w3.heap.size,c,none⟩=false)∧w3.heap.size<wr.heap.size:=by
 obtain ⟨hb,cs,h1,h2,h3⟩:=h
 exact ⟨fun c hc=>⟨cs[i * 8+c]'(by omega),(h1.cell _).trans (Array.getElem?_eq_getElem (by omega))⟩,fun c=>h1.frozen c,h1.lt⟩
end
end Go.Proofs.YtnajjhgbombboaaGreatDoor
