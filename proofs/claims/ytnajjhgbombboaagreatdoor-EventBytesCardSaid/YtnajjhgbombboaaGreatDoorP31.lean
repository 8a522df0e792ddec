/-
  Texts behind the statement: part 31.
-/
import Derived.Test.YtnajjhgbombboaaGreatDoorP29
import Derived.ProofKit
import Derived.OpenShut
import Derived.Carry
import Derived.JoinedCond
import Derived.Lib.SmallJoins
import Derived.Deep.Slices
import Derived.Deep.Fields
import Derived.Still
set_option linter.unusedVariables false
set_option linter.unusedSimpArgs false
namespace Go.Proofs.YtnajjhgbombboaaGreatDoor
section
open Go.ChangeShapes Go.WideShapes Go.ChangeAt Go.RowKit
section
variable {H:Type} {enc:TypeId×Value→H} {P:Program} {w:World} {base:Nat} {spare:Nat→Bool} {held:Bool}
theorem struct_cells {t:TypeId} {fs:Array Field} {fuel:Nat} {cs:List Value} {x:DataW H×List MemPlace} (hs:P.underlying t=some (.struct fs)) (hone:Go.Deep.oneCellFields P fs=true) (hC:P.cellsOf t=fs.size)
  (h:DataW.trod enc P w base spare held fuel t cs=some x) :
  cs.length=fs.size ∧ ∃ n,∀ (j:Nat) (f:Field),fs[j]? = some f → ∃ v y,cs[j]? = some v∧DataW.trod enc P w base spare held n f.type [v]=some y:=by
 obtain ⟨xs,n,-,-,hlen,hxl,hg⟩:=DataW.trod_struct hs h
 rw [hC] at hlen
 refine ⟨hlen,n,fun j f hj=>?_⟩
 have hjl:j<fs.size:=(Array.getElem?_eq_some_iff.1 hj).1
 obtain ⟨ho,hk⟩:=Go.Deep.hone_of hone j f hj
 have hcl:j<cs.length:=by omega
 have hxl':j<xs.length:=by omega
 have h1:=hg j f hj
 rw [ho,hk,List.drop_eq_getElem_cons hcl] at h1
 exact ⟨cs[j],xs[j],List.getElem?_eq_getElem hcl,h1.trans (List.getElem?_eq_getElem hxl')⟩
end
end
section
open Go.ChangeShapes Go.WideShapes Go.RowKit
section
variable {H:Type} {enc:TypeId×Value→H} {P:Program} {w:World} {base:Nat} {spare:Nat→Bool} {held:Bool}
end
theorem list4 {α : Type} {l:List α} (h:l.length=4) : ∃ a b c d,l=[a,b,c,d]:=by
 match l,h with
 | [a,b,c,d],_=>exact ⟨a,b,c,d,rfl⟩
end
section
open Go.ChangeShapes Go.WideShapes Go.RowKit
section
variable {H:Type} {enc:TypeId×Value→H} {w:World} {base:Nat} {spare:Nat→Bool} {held:Bool}
theorem i64_range {n:Int} (h:(Lit.int .i64 n).wf=true) : -9223372036854775808≤n∧n≤9223372036854775807:=by
 simp [Lit.wf,IntKind.min,IntKind.max,IntKind.bits,IntKind.signed] at h
 omega
theorem u64_range {n:Int} (h:(Lit.int .u64 n).wf=true) : 0≤n∧n≤18446744073709551615:=by
 simp [Lit.wf,IntKind.min,IntKind.max,IntKind.bits,IntKind.signed] at h
 omega
theorem val_cells {cs:List Value} {fuel:Nat} {x:DataW H×List MemPlace} (h:DataW.trod enc Tryz.prog w base spare held fuel 64 cs=some x) : ∃ x:Val,cs=vrow x∧x.Wf∧x.b.size≤maxLen:=by
 obtain ⟨hl,m,hg⟩:=struct_cells Tryz.underlying64 (by kernel_rfl) (by kernel_rfl) h
 obtain ⟨u0,u1,u2,u3,rfl⟩:=list4 hl
 obtain ⟨v0,y0,k0,e0⟩:=hg 0 _ rfl
 obtain ⟨v1,y1,k1,e1⟩:=hg 1 _ rfl
 obtain ⟨v2,y2,k2,e2⟩:=hg 2 _ rfl
 obtain ⟨v3,y3,k3,e3⟩:=hg 3 _ rfl
 cases k0
 cases k1
 cases k2
 cases k3
 obtain ⟨a,q0,-,w0⟩:=DataW.trod_int Tryz.underlying61 e0
 obtain ⟨b,q1,-,w1⟩:=DataW.trod_int Tryz.underlying2 e1
 obtain ⟨c,q2,-,w2⟩:=DataW.trod_int Tryz.underlying62 e2
 obtain ⟨d,q3,-,w3⟩:=DataW.trod_string Tryz.underlying9 e3
 simp only [List.cons.injEq,and_true] at q0 q1 q2 q3
 subst q0 q1 q2 q3
 exact ⟨⟨a,b,c,d⟩,rfl,⟨(i64_range w1).1,(i64_range w1).2,(u64_range w2).1,(u64_range w2).2⟩,w3⟩
theorem col_cells {cs:List Value} {fuel:Nat} {x:DataW H×List MemPlace} (h:DataW.trod enc Tryz.prog w base spare held fuel 67 cs=some x) : ∃ x:Col,cs=[.string x.name,.int .i64 x.t,.int .i64 x.z,.bool x.null]∧x.name.size≤maxLen:=by
 obtain ⟨hl,m,hg⟩:=struct_cells Tryz.underlying67 (by kernel_rfl) (by kernel_rfl) h
 obtain ⟨u0,u1,u2,u3,rfl⟩:=list4 hl
 obtain ⟨v0,y0,k0,e0⟩:=hg 0 _ rfl
 obtain ⟨v1,y1,k1,e1⟩:=hg 1 _ rfl
 obtain ⟨v2,y2,k2,e2⟩:=hg 2 _ rfl
 obtain ⟨v3,y3,k3,e3⟩:=hg 3 _ rfl
 cases k0
 cases k1
 cases k2
 cases k3
 obtain ⟨a,q0,-,w0⟩:=DataW.trod_string Tryz.underlying9 e0
 obtain ⟨b,q1,-,w1⟩:=DataW.trod_int Tryz.underlying65 e1
 obtain ⟨c,q2,-,w2⟩:=DataW.trod_int Tryz.underlying3 e2
 obtain ⟨d,q3,-⟩:=DataW.trod_bool Tryz.underlying4 e3
 simp only [List.cons.injEq,and_true] at q0 q1 q2 q3
 subst q0 q1 q2 q3
 exact ⟨⟨a,b,c,d⟩,rfl,w0⟩
end
end
section
open Go.ChangeShapes Go.WideShapes Go.RowKit
section
variable {H:Type} {enc:TypeId×Value→H} {w:World} {base:Nat} {spare:Nat→Bool} {held:Bool}
theorem vals_read {fuel:Nat} {cs:List Value} {x:DataW H×List MemPlace} (h:DataW.trod enc Tryz.prog w base spare held fuel 28 cs=some x) :
  ∃ (A:Option Addr) (l:List Val) (cap:Nat),cs=[.slice A l.length cap]∧ValsAt w (.slice A l.length cap) l∧(∀ x ∈ l,x.Wf)∧(∀ x ∈ l,x.b.size≤maxLen):=by
 obtain ⟨A,n,cap,rfl,hn,hm,h0,hi⟩:=slice_read (sz:=4) Tryz.underlying28 (by kernel_rfl) (by omega) h
 obtain ⟨l,hl,hp⟩:=list_of (n:=n) (p:=fun i (x:Val)=>(∀ b off,A=some ⟨b,off,none⟩ → ∀ j v,(vrow x)[j]? = some v→w.cell? ⟨b,off+i * 4+j,none⟩=some v)∧x.Wf∧x.b.size≤maxLen) (fun i hin=>by
  obtain ⟨b,off,rfl,hb,hc⟩:=hi (by omega)
  obtain ⟨cs',fuel',y,hl,hcell,ht⟩:=hc i hin
  obtain ⟨x,rfl,hw,hs⟩:=val_cells ht
  refine ⟨x,fun b' off' e=>?_,hw,hs⟩
  cases e
  exact hcell)
 subst hl
 refine ⟨A,l,cap,rfl,⟨A,cap,rfl,hn,hm,fun hn0=>?_⟩,fun x hx=>?_,fun x hx=>?_⟩
 ·obtain ⟨b,off,rfl,hb,-⟩:=hi hn0
  refine ⟨b,off,rfl,fun i x hx=>?_⟩
  have:=(hp i x hx).1 b off rfl
  exact ⟨this 0 _ rfl,this 1 _ rfl,this 2 _ rfl,this 3 _ rfl⟩
 ·obtain ⟨i,hi⟩:=List.mem_iff_getElem?.1 hx
  exact (hp i x hi).2.1
 ·obtain ⟨i,hi⟩:=List.mem_iff_getElem?.1 hx
  exact (hp i x hi).2.2
theorem ints_read {fuel:Nat} {cs:List Value} {x:DataW H×List MemPlace} (h:DataW.trod enc Tryz.prog w base spare held fuel 24 cs=some x) :
  ∃ (A:Option Addr) (l:List Int) (cap:Nat),cs=[.slice A l.length cap]∧IntsAt w (.slice A l.length cap) l:=by
 obtain ⟨A,n,cap,rfl,hn,hm,h0,hi⟩:=slice_read (sz:=1) Tryz.underlying24 (by kernel_rfl) (by omega) h
 obtain ⟨l,hl,hp⟩:=list_of (n:=n) (p:=fun i (x:Int)=>∀ b off,A=some ⟨b,off,none⟩→w.cell? ⟨b,off+i,none⟩=some (.int .i64 x)) (fun i hin=>by
  obtain ⟨b,off,rfl,hb,hc⟩:=hi (by omega)
  obtain ⟨cs',fuel',y,hl,hcell,ht⟩:=hc i hin
  obtain ⟨m,rfl,-,-⟩:=DataW.trod_int Tryz.underlying3 ht
  refine ⟨m,fun b' off' e=>?_⟩
  cases e
  have:=hcell 0 _ rfl
  rwa [Nat.mul_one,Nat.add_zero] at this)
 subst hl
 refine ⟨A,l,cap,rfl,A,cap,rfl,hn,hm,fun hn0=>?_⟩
 obtain ⟨b,off,rfl,hb,-⟩:=hi hn0
 exact ⟨b,off,rfl,fun i x hx=>hp i x hx b off rfl⟩
theorem intss_read {fuel:Nat} {cs:List Value} {x:DataW H×List MemPlace} (h:DataW.trod enc Tryz.prog w base spare held fuel 25 cs=some x) :
  ∃ (A:Option Addr) (l:List (List Int)) (cap:Nat),cs=[.slice A l.length cap]∧ListsAt w (.slice A l.length cap) l:=by
 obtain ⟨A,n,cap,rfl,hn,hm,h0,hi⟩:=slice_read (sz:=1) Tryz.underlying25 (by kernel_rfl) (by omega) h
 obtain ⟨l,hl,hp⟩:=list_of (n:=n) (p:=fun i (x:List Int)=>∀ b off,A=some ⟨b,off,none⟩ → ∃ u,w.cell? ⟨b,off+i,none⟩=some u∧IntsAt w u x) (fun i hin=>by
  obtain ⟨b,off,rfl,hb,hc⟩:=hi (by omega)
  obtain ⟨cs',fuel',y,hl,hcell,ht⟩:=hc i hin
  obtain ⟨A2,l2,c2,rfl,h2⟩:=ints_read ht
  refine ⟨l2,fun b' off' e=>?_⟩
  cases e
  have:=hcell 0 _ rfl
  rw [Nat.mul_one,Nat.add_zero] at this
  exact ⟨_,this,h2⟩)
 subst hl
 refine ⟨A,l,cap,rfl,A,cap,rfl,hn,hm,fun hn0=>?_⟩
 obtain ⟨b,off,rfl,hb,-⟩:=hi hn0
 exact ⟨b,off,rfl,fun i x hx=>hp i x hx b off rfl⟩
theorem cols_read {fuel:Nat} {cs:List Value} {x:DataW H×List MemPlace} (h:DataW.trod enc Tryz.prog w base spare held fuel 23 cs=some x) :
  ∃ (A:Option Addr) (l:List Col) (cap:Nat),cs=[.slice A l.length cap]∧ColsAt w (.slice A l.length cap) l∧(∀ c ∈ l,c.name.size≤maxLen):=by
 obtain ⟨A,n,cap,rfl,hn,hm,h0,hi⟩:=slice_read (sz:=4) Tryz.underlying23 (by kernel_rfl) (by omega) h
 obtain ⟨l,hl,hp⟩:=list_of (n:=n) (p:=fun i (x:Col)=>(∀ b off,A=some ⟨b,off,none⟩ → ∀ j v,([.string x.name,.int .i64 x.t,.int .i64 x.z,.bool x.null]:List Value)[j]? = some v→w.cell? ⟨b,off+i * 4+j,none⟩=some v)∧x.name.size≤maxLen) (fun i hin=>by
  obtain ⟨b,off,rfl,hb,hc⟩:=hi (by omega)
  obtain ⟨cs',fuel',y,hl,hcell,ht⟩:=hc i hin
  obtain ⟨x,rfl,hs⟩:=col_cells ht
  refine ⟨x,fun b' off' e=>?_,hs⟩
  cases e
  exact hcell)
 subst hl
 refine ⟨A,l,cap,rfl,⟨A,cap,rfl,hn,hm,fun hn0=>?_⟩,fun x hx=>?_⟩
 ·obtain ⟨b,off,rfl,hb,-⟩:=hi hn0
  refine ⟨b,off,rfl,fun i x hx=>?_⟩
  have:=(hp i x hx).1 b off rfl
  exact ⟨this 0 _ rfl,this 1 _ rfl,this 2 _ rfl,this 3 _ rfl⟩
 ·obtain ⟨i,hi⟩:=List.mem_iff_getElem?.1 hx
  exact (hp i x hi).2
end
end
section
open Go.ChangeShapes Go.WideShapes Go.RowKit
theorem list2 {α : Type} {l:List α} (h:l.length=2) : ∃ a b,l=[a,b]:=by
 match l,h with
 | [a,b],_=>exact ⟨a,b,rfl⟩
theorem list8 {α : Type} {l:List α} (h:l.length=8) : ∃ a b c d e f g i,l=[a,b,c,d,e,f,g,i]:=by
 match l,h with
 | [a,b,c,d,e,f,g,i],_=>exact ⟨a,b,c,d,e,f,g,i,rfl⟩
section
variable {H:Type} {enc:TypeId×Value→H} {w:World} {base:Nat} {spare:Nat→Bool} {held:Bool}
set_option maxRecDepth 100000 in
theorem pair_cells {cs:List Value} {fuel:Nat} {x:DataW H×List MemPlace} (h:DataW.trod enc Tryz.prog w base spare held fuel 68 cs=some x) : ∃ p:ByteArray×ByteArray,cs=[.string p.1,.string p.2]∧p.1.size≤maxLen∧p.2.size≤maxLen:=by
 obtain ⟨xs,m,-,-,hl,hn,hi⟩:=DataW.trod_array Tryz.underlying68 h
 have hc:Tryz.prog.cellsOf 9=1:=by kernel_rfl
 have hc2:Tryz.prog.cellsOf 68=2:=by kernel_rfl
 rw [hc2] at hl
 obtain ⟨u0,u1,rfl⟩:=list2 hl
 have e0:=hi 0 (by omega)
 have e1:=hi 1 (by omega)
 rw [hc] at e0 e1
 rw [List.getElem?_eq_getElem (show 0<xs.length by omega)] at e0
 rw [List.getElem?_eq_getElem (show 1<xs.length by omega)] at e1
 obtain ⟨a,q0,-,w0⟩:=DataW.trod_string Tryz.underlying9 e0
 obtain ⟨b,q1,-,w1⟩:=DataW.trod_string Tryz.underlying9 e1
 obtain rfl:u0 = .string a:=by simpa using q0
 obtain rfl:u1 = .string b:=by simpa using q1
 exact ⟨(a,b),rfl,w0,w1⟩
theorem pairs_read {fuel:Nat} {cs:List Value} {x:DataW H×List MemPlace} (h:DataW.trod enc Tryz.prog w base spare held fuel 29 cs=some x) :
  ∃ (A:Option Addr) (l:List (ByteArray×ByteArray)) (cap:Nat),cs=[.slice A l.length cap]∧PairsAt w (.slice A l.length cap) l∧(∀ p ∈ l,p.1.size≤maxLen∧p.2.size≤maxLen):=by
 obtain ⟨A,n,cap,rfl,hn,hm,h0,hi⟩:=slice_read (sz:=2) Tryz.underlying29 (by kernel_rfl) (by omega) h
 obtain ⟨l,hl,hp⟩:=list_of (n:=n) (p:=fun i (x:ByteArray×ByteArray)=>(∀ b off,A=some ⟨b,off,none⟩ → ∀ j v,([.string x.1,.string x.2]:List Value)[j]? = some v→w.cell? ⟨b,off+i * 2+j,none⟩=some v)∧x.1.size≤maxLen∧x.2.size≤maxLen) (fun i hin=>by
  obtain ⟨b,off,rfl,hb,hc⟩:=hi (by omega)
  obtain ⟨cs',fuel',y,hl,hcell,ht⟩:=hc i hin
  obtain ⟨x,rfl,hs⟩:=pair_cells ht
  refine ⟨x,fun b' off' e=>?_,hs⟩
  cases e
  exact hcell)
 subst hl
 refine ⟨A,l,cap,rfl,⟨A,cap,rfl,hn,hm,fun hn0=>?_⟩,fun x hx=>?_⟩
 ·obtain ⟨b,off,rfl,hb,-⟩:=hi hn0
  refine ⟨b,off,rfl,fun i x hx=>?_⟩
  have:=(hp i x hx).1 b off rfl
  exact ⟨this 0 _ rfl,this 1 _ rfl⟩
 ·obtain ⟨i,hi⟩:=List.mem_iff_getElem?.1 hx
  exact (hp i x hi).2
def evList (e:Ev) (vc vk vu vo vn vs:Value):List Value:=[.int .i64 e.k,.string e.t,vc,vk,vu,vo,vn,vs]
set_option maxRecDepth 100000 in
theorem event_cells {cs:List Value} {fuel:Nat} {x:DataW H×List MemPlace} (h:DataW.trod enc Tryz.prog w base spare held fuel 31 cs=some x) :
  ∃ (e:Ev) (vc vk vu vo vn vs:Value),cs=evList e vc vk vu vo vn vs∧EvAt w vc vk vu vo vn vs e∧e.In:=by
 obtain ⟨xs,m,-,-,hl,hn,hi⟩:=DataW.trod_struct Tryz.underlying31 h
 have k0:Tryz.prog.cellsOf 31=8:=by kernel_rfl
 have k1:Tryz.prog.cellsOf 22=1:=by kernel_rfl
 have k2:Tryz.prog.cellsOf 9=1:=by kernel_rfl
 have k3:Tryz.prog.cellsOf 27=3:=by kernel_rfl
 have k4:Tryz.prog.cellsOf 28=1:=by kernel_rfl
 have k5:Tryz.prog.cellsOf 29=1:=by kernel_rfl
 rw [k0] at hl
 have hn:xs.length=6:=hn
 obtain ⟨u0,u1,u2,u3,u4,u5,u6,u7,rfl⟩:=list8 hl
 have e0:=hi 0 _ rfl
 have e1:=hi 1 _ rfl
 have e2:=hi 2 _ rfl
 have e3:=hi 3 _ rfl
 have e4:=hi 4 _ rfl
 have e5:=hi 5 _ rfl
 rw [List.getElem?_eq_getElem (show 0<xs.length by omega)] at e0
 rw [List.getElem?_eq_getElem (show 1<xs.length by omega)] at e1
 rw [List.getElem?_eq_getElem (show 2<xs.length by omega)] at e2
 rw [List.getElem?_eq_getElem (show 3<xs.length by omega)] at e3
 rw [List.getElem?_eq_getElem (show 4<xs.length by omega)] at e4
 rw [List.getElem?_eq_getElem (show 5<xs.length by omega)] at e5
 simp only [List.getElem_toArray,List.getElem_cons_zero,List.getElem_cons_succ] at e0 e1 e2 e3 e4 e5
 rw [k1] at e0
 rw [k2] at e1
 rw [k3] at e2
 rw [k4] at e3 e4
 rw [k5] at e5
 simp only [List.drop_succ_cons,List.drop_zero,List.take_succ_cons,List.take_zero] at e0 e1 e2 e3 e4 e5
 obtain ⟨a,q0,-,w0⟩:=DataW.trod_int Tryz.underlying22 e0
 obtain ⟨b,q1,-,w1⟩:=DataW.trod_string Tryz.underlying9 e1
 obtain ⟨hl2,m2,hg⟩:=struct_cells Tryz.underlying27 (by kernel_rfl) (by kernel_rfl) e2
 obtain ⟨v0,y0,s0,t0⟩:=hg 0 _ rfl
 obtain ⟨v1,y1,s1,t1⟩:=hg 1 _ rfl
 obtain ⟨v2,y2,s2,t2⟩:=hg 2 _ rfl
 cases s0
 cases s1
 cases s2
 obtain ⟨A0,l0,c0,p0,h0,z0⟩:=cols_read t0
 obtain ⟨A1,l1,c1,p1,h1⟩:=ints_read t1
 obtain ⟨A2,l2,c2,p2,h2⟩:=intss_read t2
 obtain ⟨A3,l3,c3,p3,h3,z3,y3⟩:=vals_read e3
 obtain ⟨A4,l4,c4,p4,h4,z4,y4⟩:=vals_read e4
 obtain ⟨A5,l5,c5,p5,h5,z5⟩:=pairs_read e5
 simp only [List.cons.injEq,and_true] at q0 q1 p0 p1 p2 p3 p4 p5
 subst q0 q1 p0 p1 p2 p3 p4 p5
 refine ⟨⟨a,b,l0,l1,l2,l3,l4,l5⟩,_,_,_,_,_,_,rfl,⟨h0,h1,h2,h3,h4,h5⟩,⟨fun x hx=>?_,w1,z0,fun x hx=>?_,z5⟩⟩
 ·rcases List.mem_append.1 hx with hx | hx
  ·exact z3 x hx
  ·exact z4 x hx
 ·rcases List.mem_append.1 hx with hx | hx
  ·exact y3 x hx
  ·exact y4 x hx
end
end
section
open Go.RowKit Go.Shelf Go.Lib
attribute [local go_sem] Oper.semAt_some
set_option maxRecDepth 100000 in
theorem three_val {w:World} {A:Option Addr} {c:Nat} {l:List Val} (h:ValsAt w (.slice A l.length c) l) (hs : ∀ x ∈ l,x.b.size≤maxLen) (k:Nat) :
  ((¬ (k:Int)<l.length ∧ ¬ k<l.length)∧decide ((k:Int)<l.length)=false∧decide (k<l.length)=false) ∨ (∃ b off,∃ x:ByteArray,A=some ⟨b,off,none⟩∧(k:Int)<l.length∧decide ((k:Int)<l.length)=true∧w.cell? ⟨b,off+k * 4+3,none⟩=some (.string x)∧(x.size:Int)≤9223372036854775807∧(((300:Int)<x.size∧decide ((300:Int)<x.size)=true) ∨ (¬ (300:Int)<x.size∧decide ((300:Int)<x.size)=false))):=by
 by_cases hk:k<l.length
 ·obtain ⟨A',c',he,-,-,hr⟩:=h
  injection he with e1 e2 e3
  subst e1
  obtain ⟨b,off,ea,hi⟩:=hr (by omega)
  obtain ⟨x,hx⟩ : ∃ x,l[k]? = some x:=⟨_,List.getElem?_eq_getElem hk⟩
  have hm:=hs x (List.mem_of_getElem? hx)
  unfold maxLen at hm
  refine .inr ⟨b,off,x.b,ea,by omega,by simp;omega,(hi k x hx).2.2.2,by omega, ?_⟩
  by_cases h3:(300:Int)<x.b.size
  ·exact .inl ⟨h3,by simpa using h3⟩
  ·exact .inr ⟨h3,by simpa using h3⟩
 ·exact .inl ⟨⟨by omega,hk⟩,by simp;omega,decide_eq_false hk⟩
set_option maxRecDepth 100000 in
theorem three_col {w:World} {A:Option Addr} {c:Nat} {l:List Col} (h:ColsAt w (.slice A l.length c) l) (hs : ∀ x ∈ l,x.name.size≤maxLen) (k:Nat) :
  ((¬ (k:Int)<l.length ∧ ¬ k<l.length)∧decide ((k:Int)<l.length)=false∧decide (k<l.length)=false) ∨ (∃ b off,∃ x:ByteArray,A=some ⟨b,off,none⟩∧(k:Int)<l.length∧decide ((k:Int)<l.length)=true∧w.cell? ⟨b,off+k * 4,none⟩=some (.string x)∧(x.size:Int)≤9223372036854775807∧(((60:Int)<x.size∧decide ((60:Int)<x.size)=true) ∨ (¬ (60:Int)<x.size∧decide ((60:Int)<x.size)=false))):=by
 by_cases hk:k<l.length
 ·obtain ⟨A',c',he,-,-,hr⟩:=h
  injection he with e1 e2 e3
  subst e1
  obtain ⟨b,off,ea,hi⟩:=hr (by omega)
  obtain ⟨x,hx⟩ : ∃ x,l[k]? = some x:=⟨_,List.getElem?_eq_getElem hk⟩
  have hm:=hs x (List.mem_of_getElem? hx)
  unfold maxLen at hm
  refine .inr ⟨b,off,x.name,ea,by omega,by simp;omega,(hi k x hx).1,by omega, ?_⟩
  by_cases h3:(60:Int)<x.name.size
  ·exact .inl ⟨h3,by simpa using h3⟩
  ·exact .inr ⟨h3,by simpa using h3⟩
 ·exact .inl ⟨⟨by omega,hk⟩,by simp;omega,decide_eq_false hk⟩
set_option maxRecDepth 100000 in
theorem three_uni {w:World} {A:Option Addr} {c:Nat} {l:List (List Int)} (h:ListsAt w (.slice A l.length c) l) (k:Nat) :
  ((¬ (k:Int)<l.length ∧ ¬ k<l.length)∧decide ((k:Int)<l.length)=false∧decide (k<l.length)=false) ∨ (∃ b off,∃ (B:Option Addr) (n d:Nat),A=some ⟨b,off,none⟩∧(k:Int)<l.length∧decide ((k:Int)<l.length)=true∧w.cell? ⟨b,off+k,none⟩=some (.slice B n d)∧(n:Int)≤9223372036854775807∧(((12:Int)<n∧decide ((12:Int)<(n:Int))=true) ∨ (¬ (12:Int)<n∧decide ((12:Int)<(n:Int))=false))):=by
 by_cases hk:k<l.length
 ·obtain ⟨A',c',he,-,-,hr⟩:=h
  injection he with e1 e2 e3
  subst e1
  obtain ⟨b,off,ea,hi⟩:=hr (by omega)
  obtain ⟨x,hx⟩ : ∃ x,l[k]? = some x:=⟨_,List.getElem?_eq_getElem hk⟩
  obtain ⟨u,hu,B,d,rfl,hnd,hdm,-⟩:=hi k x hx
  unfold maxLen at hdm
  refine .inr ⟨b,off,B,x.length,d,ea,by omega,by simp;omega,hu,by omega, ?_⟩
  by_cases h3:(12:Int)<x.length
  ·exact .inl ⟨h3,by simpa using h3⟩
  ·exact .inr ⟨h3,by simpa using h3⟩
 ·exact .inl ⟨⟨by omega,hk⟩,by simp;omega,decide_eq_false hk⟩
set_option maxRecDepth 100000 in
theorem three_pair {w:World} {A:Option Addr} {c:Nat} {l:List (ByteArray×ByteArray)} (h:PairsAt w (.slice A l.length c) l) (k:Nat) :
  ((¬ (k:Int)<l.length ∧ ¬ k<l.length)∧decide ((k:Int)<l.length)=false∧decide (k<l.length)=false) ∨ (∃ b off,∃ (x y:ByteArray),A=some ⟨b,off,none⟩∧(k:Int)<l.length∧decide ((k:Int)<l.length)=true∧w.cell? ⟨b,off+k * 2,none⟩=some (.string x)∧w.cell? ⟨b,off+k * 2+1,none⟩=some (.string y)∧(((120:Int)<IntKind.i64.wrap ((x.size:Int)+y.size)∧decide ((120:Int)<IntKind.i64.wrap ((x.size:Int)+y.size))=true) ∨ (¬ (120:Int)<IntKind.i64.wrap ((x.size:Int)+y.size)∧decide ((120:Int)<IntKind.i64.wrap ((x.size:Int)+y.size))=false))):=by
 by_cases hk:k<l.length
 ·obtain ⟨A',c',he,-,-,hr⟩:=h
  injection he with e1 e2 e3
  subst e1
  obtain ⟨b,off,ea,hi⟩:=hr (by omega)
  obtain ⟨x,hx⟩ : ∃ x,l[k]? = some x:=⟨_,List.getElem?_eq_getElem hk⟩
  refine .inr ⟨b,off,x.1,x.2,ea,by omega,by simp;omega,(hi k x hx).1,(hi k x hx).2, ?_⟩
  by_cases h3:(120:Int)<IntKind.i64.wrap ((x.1.size:Int)+x.2.size)
  ·exact .inl ⟨h3,decide_eq_true h3⟩
  ·exact .inr ⟨h3,decide_eq_false h3⟩
 ·exact .inl ⟨⟨by omega,hk⟩,by simp;omega,decide_eq_false hk⟩
theorem quiet_splitA {P:Program} {ops:Array Oper} {C:World→Prop} {Q:Act→Prop} : ∀ (n:Nat) (R:Act→Prop) (l:List Oper) (a:Act),wpQuiet P ops C R (l.take n) a→(∀ a',R a'→wpQuiet P ops C Q (l.drop n) a')→wpQuiet P ops C Q l a
 | 0,R,l,a,h1,h2=>h2 a h1
 | n+1,R,[],a,h1,h2=>h2 a h1
 | n+1,R,o :: l,a,h1,h2=>by
   show if Region.wanted o (yielded ops a.tmps) then o.quiet P a C (wpQuiet P ops C Q l) else wpQuiet P ops C Q l (a.put o.dst undef)
   have h:if Region.wanted o (yielded ops a.tmps) then o.quiet P a C (wpQuiet P ops C R (l.take n)) else wpQuiet P ops C R (l.take n) (a.put o.dst undef):=h1
   by_cases hw:Region.wanted o (yielded ops a.tmps)=true
   ·rw [if_pos hw] at h ⊢
    exact Oper.quiet_mono (fun a' ha'=>quiet_splitA n R l a' ha' h2) h
   ·rw [if_neg hw] at h ⊢
    exact quiet_splitA n R l _ h h2
theorem quiet_split {P:Program} {ops:Array Oper} {C:World→Prop} {Q:Act→Prop} (n:Nat) {l:List Oper} {a:Act} (R:Act→Act→Prop) (h1:wpQuiet P ops C (R a) (l.take n) a) (h2 : ∀ a',R a a'→wpQuiet P ops C Q (l.drop n) a'):wpQuiet P ops C Q l a:=quiet_splitA n (R a) l a h1 h2
theorem open_n : ∀ (n:Nat) (l:List Value),l.length=n → ∃ z:Nat→Value,∀ i,i<n→l[i]? = some (z i):=fun n l h=>⟨fun i=>l.getD i undef,fun i hi=>by dsimp only;rw [List.getD_eq_getElem?_getD,List.getElem?_eq_getElem (by omega)];rfl⟩
set_option maxRecDepth 100000 in
theorem open94 {l:List Value} (h:l.length=94) : ∃ z:Nat→Value,l=z 0 :: z 1 :: z 2 :: z 3 :: z 4 :: z 5 :: z 6 :: z 7 :: z 8 :: z 9 :: z 10 :: z 11 :: z 12 :: z 13 :: z 14 :: z 15 :: z 16 :: z 17 :: z 18 :: z 19 :: z 20 :: z 21 :: z 22 :: z 23 :: z 24 :: z 25 :: z 26 :: z 27 :: z 28 :: z 29 :: z 30 :: z 31 :: z 32 :: z 33 :: z 34 :: z 35 :: z 36 :: z 37 :: z 38 :: z 39 :: z 40 :: z 41 :: z 42 :: z 43 :: z 44 :: z 45 :: z 46 :: z 47 :: z 48 :: z 49 :: z 50 :: z 51 :: z 52 :: z 53 :: z 54 :: z 55 :: z 56 :: z 57 :: z 58 :: z 59 :: z 60 :: z 61 :: z 62 :: z 63 :: z 64 :: z 65 :: z 66 :: z 67 :: z 68 :: z 69 :: z 70 :: z 71 :: z 72 :: z 73 :: z 74 :: z 75 :: z 76 :: z 77 :: z 78 :: z 79 :: z 80 :: z 81 :: z 82 :: z 83 :: z 84 :: z 85 :: z 86 :: z 87 :: z 88 :: z 89 :: z 90 :: z 91 :: z 92 :: z 93 :: []:=by
 obtain ⟨z,hz⟩:=open_n 94 l h
 refine ⟨z,List.ext_getElem? fun i=>?_⟩
 by_cases hi:i<94
 ·rw [hz i hi]
  have:(List.ofFn (fun k:Fin 94=>z k))=z 0 :: z 1 :: z 2 :: z 3 :: z 4 :: z 5 :: z 6 :: z 7 :: z 8 :: z 9 :: z 10 :: z 11 :: z 12 :: z 13 :: z 14 :: z 15 :: z 16 :: z 17 :: z 18 :: z 19 :: z 20 :: z 21 :: z 22 :: z 23 :: z 24 :: z 25 :: z 26 :: z 27 :: z 28 :: z 29 :: z 30 :: z 31 :: z 32 :: z 33 :: z 34 :: z 35 :: z 36 :: z 37 :: z 38 :: z 39 :: z 40 :: z 41 :: z 42 :: z 43 :: z 44 :: z 45 :: z 46 :: z 47 :: z 48 :: z 49 :: z 50 :: z 51 :: z 52 :: z 53 :: z 54 :: z 55 :: z 56 :: z 57 :: z 58 :: z 59 :: z 60 :: z 61 :: z 62 :: z 63 :: z 64 :: z 65 :: z 66 :: z 67 :: z 68 :: z 69 :: z 70 :: z 71 :: z 72 :: z 73 :: z 74 :: z 75 :: z 76 :: z 77 :: z 78 :: z 79 :: z 80 :: z 81 :: z 82 :: z 83 :: z 84 :: z 85 :: z 86 :: z 87 :: z 88 :: z 89 :: z 90 :: z 91 :: z 92 :: z 93 :: []:=rfl
  rw [← this,List.getElem?_ofFn]
  simp [hi]
 ·rw [List.getElem?_eq_none (by omega),List.getElem?_eq_none (by simp;omega)]
theorem bel_drewN (w:World) (n:Nat):Bel w (w.drewN n):=⟨rfl,rfl,rfl,Nat.le_refl _,fun _ _=>rfl⟩
def GivesFew (e:Ev) (w:World) (en:Ending) (w':World):Prop:=∃ b,en = .returned (.bool b)∧(b=true→FewP e)∧Bel w w'
end
section
open Go
def pairsFrom (md:Region.Mode) (ops:Array Oper):Nat→List Oper→Bool
 | _,[]=>true
 | k,o :: rest=>(o.after.all fun e=>!Region.binds md e || decide (e.on<k)) && (rest.all fun oj=>oj.after.any (fun e=>Region.binds md e && e.on == k) || o.apart ops oj) && pairsFrom md ops (k+1) rest
theorem lexFrom_of_pairs {md:Region.Mode} {ops:Array Oper} : ∀ (n k:Nat) (listed:Array Bool),k+n=ops.size→(∀ j,j<ops.size→listed[j]? = some (decide (j<k)))→listed.size=ops.size→pairsFrom md ops k (ops.toList.drop k)=true→Region.lexFrom md ops n k listed=true
 | 0,k,listed,hk,hl,hs,hp=>by
   unfold Region.lexFrom Region.ready
   rw [List.isEmpty_iff,List.filter_eq_nil_iff]
   intro i hi
   have hi:=List.mem_range.1 hi
   rw [Array.getD_eq_getD_getElem?,hl i hi,decide_eq_true (by omega)]
   simp
 | n+1,k,listed,hk,hl,hs,hp=>by
   have hkl:k<ops.size:=by omega
   have hd:ops.toList.drop k=ops[k] :: ops.toList.drop (k+1):=by
    rw [List.drop_eq_getElem_cons (by simpa using hkl)]
    simp
   rw [hd] at hp
   unfold pairsFrom at hp
   simp only [Bool.and_eq_true] at hp
   obtain ⟨⟨h1,h2⟩,h3⟩:=hp
   have ho:ops[k]? = some ops[k]:=Array.getElem?_eq_getElem hkl
   have hgt : ∀ j,j<ops.size → ∀ d,listed.getD j d=decide (j<k):=fun j hj d=>by rw [Array.getD_eq_getD_getElem?,hl j hj];rfl
   unfold Region.lexFrom
   simp only [Bool.and_eq_true]
   refine ⟨⟨?_, ?_⟩,lexFrom_of_pairs n (k+1) _ (by omega) (fun j hj=>?_) (by simp [hs]) h3⟩
   ·have hm:k ∈ Region.ready md ops listed:=by
     unfold Region.ready
     rw [List.mem_filter]
     refine ⟨List.mem_range.2 hkl, ?_⟩
     rw [hgt k hkl,ho,decide_eq_false (by omega)]
     simp only [Option.map_some,Option.getD_some,Bool.not_false,Bool.true_and]
     rw [Array.all_eq_true_iff_forall_mem] at h1 ⊢
     intro e he
     have h:=h1 e he
     cases hb:Region.binds md e with
     | false=>rfl
     | true =>
       rw [hb] at h
       have hlt:e.on<k:=by simpa using h
       rw [hgt e.on (by omega),decide_eq_true hlt]
       rfl
    simpa using hm
   ·unfold Region.free
    rw [ho]
    dsimp only
    rw [List.all_eq_true]
    intro j hj
    have hj:=List.mem_range.1 hj
    by_cases hjk:j=k
    ·simp [hjk]
    ·rw [hgt j hj]
     by_cases hlt:j<k
     ·simp [hlt]
     ·have hoj:ops[j]? = some ops[j]:=Array.getElem?_eq_getElem hj
      rw [hoj]
      have hmem:ops[j] ∈ ops.toList.drop (k+1):=by
       refine List.mem_iff_getElem?.2 ⟨j - (k+1), ?_⟩
       rw [List.getElem?_drop,show k+1+(j - (k+1))=j by omega]
       simp
      have h:=List.all_eq_true.1 h2 _ hmem
      dsimp only
      rw [h]
      simp
   ·rw [Array.getElem?_setIfInBounds]
    by_cases hjk:k=j
    ·subst hjk
     rw [if_pos rfl,if_pos (by omega),decide_eq_true (by omega)]
    ·rw [if_neg hjk,hl j hj]
     congr 1
     exact decide_eq_decide.2 (by omega)
theorem lexB_of_pairs {md:Region.Mode} {l:List Oper} (h1:Region.noSelect l.toArray=true) (h2:pairsFrom md l.toArray 0 l=true):Region.lexB md l.toArray=true:=by
 unfold Region.lexB
 rw [h1,Bool.true_and]
 exact lexFrom_of_pairs _ 0 _ (by simp) (fun j hj=>by rw [Array.getElem?_replicate,if_pos hj];simp) (by simp) h2
end
end Go.Proofs.YtnajjhgbombboaaGreatDoor
