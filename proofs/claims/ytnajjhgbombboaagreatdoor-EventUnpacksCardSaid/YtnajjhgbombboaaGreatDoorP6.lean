/-
  Texts behind the statement: part 6.
-/
import Derived.Test.YtnajjhgbombboaaGreatDoorP5
import Derived.Laws.RangeAny
set_option linter.unusedVariables false
set_option linter.unusedSimpArgs false
namespace Go.Proofs.YtnajjhgbombboaaGreatDoor
section
open Go.RowKit Go.Shelf Go.Lib
attribute [local go_sem] Oper.semAt_some
structure Val.Wf (x:Val):Prop where
 n0 : -9223372036854775808≤x.n
 n1:x.n≤9223372036854775807
 u0 : 0≤x.u
 u1:x.u≤18446744073709551615
def leastI:Int→Int
 | 1=>-128
 | 2=>-32768
 | 4=>-2147483648
 | 8=>-9223372036854775808
 | _=>0
def mostI:Int→Int
 | 1=>255
 | 2=>65535
 | 4=>4294967295
 | 8=>18446744073709551615
 | _=>0
def fitB (t z:Int) (x:Val):Bool:=if t=1 then decide (leastI z≤x.n∧x.n ≤ -(leastI z+1)) else if t=2 then decide (x.u≤mostI z) else if t=3 then true else decide ((x.b.size:Int)≤z)
theorem scka_any (z:Int) (hz:z=1 ∨ z=2 ∨ z=4 ∨ z=8) (x:Val) (hx:x.Wf) (w:World):Calls Tryz.prog 210 #[.int .i64 z,x.v] w fun e w'=>e = .returned (.bool (fitB 1 z x))∧Bel w w':=by
 obtain ⟨k,n,u,b⟩:=x
 obtain ⟨n0,n1,u0,u1⟩:=hx
 dsimp only at n0 n1 u0 u1
 unfold Val.v
 dsimp only
 rcases hz with rfl | rfl | rfl | rfl
 ·go_enter Tryz.func210,Tryz.ntmps210
  go_wp2
  obtain ⟨w1,hw1⟩ : ∃ w1,w1=w.alloc (.cells #[.int .i64 k,.int .i64 n,.int .u64 u,.string b] 64):=⟨_,rfl⟩
  rw [← hw1]
  have hb1:Bel w w1:=by rw [hw1];exact (Bel.refl w).alloc _
  have hc1:w1.drew.cell? ⟨w.heap.size,1,none⟩=some (.int .i64 n):=by rw [hw1];go_simp
  clear hw1
  refine wp_region_noPanic ?_
  refine wp_region_held_drew (S:=(fun V:World=>V.cell? ⟨w.heap.size,1,none⟩=some (.int .i64 n))) (by kernel_rfl) ?_ (fun hHr1_0=>?_)
  ·(try dsimp only);exact hc1
  refine tk 0 ?_
  refine tk 1 ?_
  refine tk 2 ?_
  refine tk 3 ?_
  refine tk 4 ?_
  refine tk 5 ?_
  refine tk 6 ?_
  refine tk 7 ?_
  refine tk 8 ?_
  refine tk 9 ?_
  refine wpAnyH_done (by kernel_rfl) ?_ _
  refine NoPanic.normal ?_
  go_wp2
  go_ret
  refine ⟨?_,hb1.drew⟩
  have hz:(IntKind.i64.wrap (n * 72057594037927936) / 72057594037927936 == n)=decide (-128≤n∧n≤127):=by
   rw [Bool.eq_iff_iff,beq_iff_eq,decide_eq_true_iff]
   simp [IntKind.wrap,IntKind.bits,IntKind.signed]
   omega
  exact congrArg (fun x=>Ending.returned (Value.bool x)) hz
 ·go_enter Tryz.func210,Tryz.ntmps210
  go_wp2
  obtain ⟨w1,hw1⟩ : ∃ w1,w1=w.alloc (.cells #[.int .i64 k,.int .i64 n,.int .u64 u,.string b] 64):=⟨_,rfl⟩
  rw [← hw1]
  have hb1:Bel w w1:=by rw [hw1];exact (Bel.refl w).alloc _
  have hc1:w1.drew.cell? ⟨w.heap.size,1,none⟩=some (.int .i64 n):=by rw [hw1];go_simp
  clear hw1
  refine wp_region_noPanic ?_
  refine wp_region_held_drew (S:=(fun V:World=>V.cell? ⟨w.heap.size,1,none⟩=some (.int .i64 n))) (by kernel_rfl) ?_ (fun hHr2_0=>?_)
  ·(try dsimp only);exact hc1
  refine tk 0 ?_
  refine tk 1 ?_
  refine tk 2 ?_
  refine tk 3 ?_
  refine tk 4 ?_
  refine tk 5 ?_
  refine tk 6 ?_
  refine tk 7 ?_
  refine tk 8 ?_
  refine tk 9 ?_
  refine wpAnyH_done (by kernel_rfl) ?_ _
  refine NoPanic.normal ?_
  go_wp2
  go_ret
  refine ⟨?_,hb1.drew⟩
  have hz:(IntKind.i64.wrap (n * 281474976710656) / 281474976710656 == n)=decide (-32768≤n∧n≤32767):=by
   rw [Bool.eq_iff_iff,beq_iff_eq,decide_eq_true_iff]
   simp [IntKind.wrap,IntKind.bits,IntKind.signed]
   omega
  exact congrArg (fun x=>Ending.returned (Value.bool x)) hz
 ·go_enter Tryz.func210,Tryz.ntmps210
  go_wp2
  obtain ⟨w1,hw1⟩ : ∃ w1,w1=w.alloc (.cells #[.int .i64 k,.int .i64 n,.int .u64 u,.string b] 64):=⟨_,rfl⟩
  rw [← hw1]
  have hb1:Bel w w1:=by rw [hw1];exact (Bel.refl w).alloc _
  have hc1:w1.drew.cell? ⟨w.heap.size,1,none⟩=some (.int .i64 n):=by rw [hw1];go_simp
  clear hw1
  refine wp_region_noPanic ?_
  refine wp_region_held_drew (S:=(fun V:World=>V.cell? ⟨w.heap.size,1,none⟩=some (.int .i64 n))) (by kernel_rfl) ?_ (fun hHr3_0=>?_)
  ·(try dsimp only);exact hc1
  refine tk 0 ?_
  refine tk 1 ?_
  refine tk 2 ?_
  refine tk 3 ?_
  refine tk 4 ?_
  refine tk 5 ?_
  refine tk 6 ?_
  refine tk 7 ?_
  refine tk 8 ?_
  refine tk 9 ?_
  refine wpAnyH_done (by kernel_rfl) ?_ _
  refine NoPanic.normal ?_
  go_wp2
  go_ret
  refine ⟨?_,hb1.drew⟩
  have hz:(IntKind.i64.wrap (n * 4294967296) / 4294967296 == n)=decide (-2147483648≤n∧n≤2147483647):=by
   rw [Bool.eq_iff_iff,beq_iff_eq,decide_eq_true_iff]
   simp [IntKind.wrap,IntKind.bits,IntKind.signed]
   omega
  exact congrArg (fun x=>Ending.returned (Value.bool x)) hz
 ·go_enter Tryz.func210,Tryz.ntmps210
  go_wp2
  obtain ⟨w1,hw1⟩ : ∃ w1,w1=w.alloc (.cells #[.int .i64 k,.int .i64 n,.int .u64 u,.string b] 64):=⟨_,rfl⟩
  rw [← hw1]
  have hb1:Bel w w1:=by rw [hw1];exact (Bel.refl w).alloc _
  have hc1:w1.drew.cell? ⟨w.heap.size,1,none⟩=some (.int .i64 n):=by rw [hw1];go_simp
  clear hw1
  refine wp_region_noPanic ?_
  refine wp_region_held_drew (S:=(fun V:World=>V.cell? ⟨w.heap.size,1,none⟩=some (.int .i64 n))) (by kernel_rfl) ?_ (fun hHr4_0=>?_)
  ·(try dsimp only);exact hc1
  refine tk 0 ?_
  refine tk 1 ?_
  refine tk 2 ?_
  refine tk 3 ?_
  refine tk 4 ?_
  refine tk 5 ?_
  refine tk 6 ?_
  refine tk 7 ?_
  refine tk 8 ?_
  refine tk 9 ?_
  refine wpAnyH_done (by kernel_rfl) ?_ _
  refine NoPanic.normal ?_
  go_wp2
  go_ret
  refine ⟨?_,hb1.drew⟩
  have hz:(IntKind.i64.wrap n == n)=decide (-9223372036854775808≤n∧n≤9223372036854775807):=by
   rw [Bool.eq_iff_iff,beq_iff_eq,decide_eq_true_iff]
   simp [IntKind.wrap,IntKind.bits,IntKind.signed]
   omega
  exact congrArg (fun x=>Ending.returned (Value.bool x)) hz
theorem sckb_any (z:Int) (hz:z=1 ∨ z=2 ∨ z=4 ∨ z=8) (x:Val) (hx:x.Wf) (w:World):Calls Tryz.prog 211 #[.int .i64 z,x.v] w fun e w'=>e = .returned (.bool (fitB 2 z x))∧Bel w w':=by
 obtain ⟨k,n,u,b⟩:=x
 obtain ⟨n0,n1,u0,u1⟩:=hx
 dsimp only at n0 n1 u0 u1
 unfold Val.v
 dsimp only
 rcases hz with rfl | rfl | rfl | rfl
 ·go_enter Tryz.func211,Tryz.ntmps211
  go_wp2
  obtain ⟨w1,hw1⟩ : ∃ w1,w1=w.alloc (.cells #[.int .i64 k,.int .i64 n,.int .u64 u,.string b] 64):=⟨_,rfl⟩
  rw [← hw1]
  have hb1:Bel w w1:=by rw [hw1];exact (Bel.refl w).alloc _
  have hc1:w1.drew.cell? ⟨w.heap.size,2,none⟩=some (.int .u64 u):=by rw [hw1];go_simp
  clear hw1
  refine wp_region_noPanic ?_
  refine wp_region_held_drew (S:=(fun V:World=>V.cell? ⟨w.heap.size,2,none⟩=some (.int .u64 u))) (by kernel_rfl) ?_ (fun hHr5_0=>?_)
  ·(try dsimp only);exact hc1
  refine tk 0 ?_
  refine tk 1 ?_
  refine tk 2 ?_
  refine tk 3 ?_
  refine tk 4 ?_
  refine tk 5 ?_
  refine tk 6 ?_
  refine tk 7 ?_
  refine tk 8 ?_
  refine tk 9 ?_
  refine wpAnyH_done (by kernel_rfl) ?_ _
  refine NoPanic.normal ?_
  go_wp2
  go_ret
  refine ⟨?_,hb1.drew⟩
  have hz:(IntKind.u64.wrap (u * 72057594037927936) / 72057594037927936 == u)=decide (u≤255):=by
   rw [Bool.eq_iff_iff,beq_iff_eq,decide_eq_true_iff]
   simp [IntKind.wrap,IntKind.bits,IntKind.signed]
   omega
  exact congrArg (fun x=>Ending.returned (Value.bool x)) hz
 ·go_enter Tryz.func211,Tryz.ntmps211
  go_wp2
  obtain ⟨w1,hw1⟩ : ∃ w1,w1=w.alloc (.cells #[.int .i64 k,.int .i64 n,.int .u64 u,.string b] 64):=⟨_,rfl⟩
  rw [← hw1]
  have hb1:Bel w w1:=by rw [hw1];exact (Bel.refl w).alloc _
  have hc1:w1.drew.cell? ⟨w.heap.size,2,none⟩=some (.int .u64 u):=by rw [hw1];go_simp
  clear hw1
  refine wp_region_noPanic ?_
  refine wp_region_held_drew (S:=(fun V:World=>V.cell? ⟨w.heap.size,2,none⟩=some (.int .u64 u))) (by kernel_rfl) ?_ (fun hHr6_0=>?_)
  ·(try dsimp only);exact hc1
  refine tk 0 ?_
  refine tk 1 ?_
  refine tk 2 ?_
  refine tk 3 ?_
  refine tk 4 ?_
  refine tk 5 ?_
  refine tk 6 ?_
  refine tk 7 ?_
  refine tk 8 ?_
  refine tk 9 ?_
  refine wpAnyH_done (by kernel_rfl) ?_ _
  refine NoPanic.normal ?_
  go_wp2
  go_ret
  refine ⟨?_,hb1.drew⟩
  have hz:(IntKind.u64.wrap (u * 281474976710656) / 281474976710656 == u)=decide (u≤65535):=by
   rw [Bool.eq_iff_iff,beq_iff_eq,decide_eq_true_iff]
   simp [IntKind.wrap,IntKind.bits,IntKind.signed]
   omega
  exact congrArg (fun x=>Ending.returned (Value.bool x)) hz
 ·go_enter Tryz.func211,Tryz.ntmps211
  go_wp2
  obtain ⟨w1,hw1⟩ : ∃ w1,w1=w.alloc (.cells #[.int .i64 k,.int .i64 n,.int .u64 u,.string b] 64):=⟨_,rfl⟩
  rw [← hw1]
  have hb1:Bel w w1:=by rw [hw1];exact (Bel.refl w).alloc _
  have hc1:w1.drew.cell? ⟨w.heap.size,2,none⟩=some (.int .u64 u):=by rw [hw1];go_simp
  clear hw1
  refine wp_region_noPanic ?_
  refine wp_region_held_drew (S:=(fun V:World=>V.cell? ⟨w.heap.size,2,none⟩=some (.int .u64 u))) (by kernel_rfl) ?_ (fun hHr7_0=>?_)
  ·(try dsimp only);exact hc1
  refine tk 0 ?_
  refine tk 1 ?_
  refine tk 2 ?_
  refine tk 3 ?_
  refine tk 4 ?_
  refine tk 5 ?_
  refine tk 6 ?_
  refine tk 7 ?_
  refine tk 8 ?_
  refine tk 9 ?_
  refine wpAnyH_done (by kernel_rfl) ?_ _
  refine NoPanic.normal ?_
  go_wp2
  go_ret
  refine ⟨?_,hb1.drew⟩
  have hz:(IntKind.u64.wrap (u * 4294967296) / 4294967296 == u)=decide (u≤4294967295):=by
   rw [Bool.eq_iff_iff,beq_iff_eq,decide_eq_true_iff]
   simp [IntKind.wrap,IntKind.bits,IntKind.signed]
   omega
  exact congrArg (fun x=>Ending.returned (Value.bool x)) hz
 ·go_enter Tryz.func211,Tryz.ntmps211
  go_wp2
  obtain ⟨w1,hw1⟩ : ∃ w1,w1=w.alloc (.cells #[.int .i64 k,.int .i64 n,.int .u64 u,.string b] 64):=⟨_,rfl⟩
  rw [← hw1]
  have hb1:Bel w w1:=by rw [hw1];exact (Bel.refl w).alloc _
  have hc1:w1.drew.cell? ⟨w.heap.size,2,none⟩=some (.int .u64 u):=by rw [hw1];go_simp
  clear hw1
  refine wp_region_noPanic ?_
  refine wp_region_held_drew (S:=(fun V:World=>V.cell? ⟨w.heap.size,2,none⟩=some (.int .u64 u))) (by kernel_rfl) ?_ (fun hHr8_0=>?_)
  ·(try dsimp only);exact hc1
  refine tk 0 ?_
  refine tk 1 ?_
  refine tk 2 ?_
  refine tk 3 ?_
  refine tk 4 ?_
  refine tk 5 ?_
  refine tk 6 ?_
  refine tk 7 ?_
  refine tk 8 ?_
  refine tk 9 ?_
  refine wpAnyH_done (by kernel_rfl) ?_ _
  refine NoPanic.normal ?_
  go_wp2
  go_ret
  refine ⟨?_,hb1.drew⟩
  have hz:(IntKind.u64.wrap u == u)=decide (u≤18446744073709551615):=by
   rw [Bool.eq_iff_iff,beq_iff_eq,decide_eq_true_iff]
   simp [IntKind.wrap,IntKind.bits,IntKind.signed]
   omega
  exact congrArg (fun x=>Ending.returned (Value.bool x)) hz
theorem sckd_any (z:Int) (x:Val) (w:World):Calls Tryz.prog 213 #[.int .i64 z,x.v] w fun e w'=>e = .returned (.bool true)∧Bel w w':=by
 obtain ⟨k,n,u,b⟩:=x
 unfold Val.v
 dsimp only
 go_enter Tryz.func213,Tryz.ntmps213
 go_wp2
 go_ret
 exact ⟨rfl,by (repeat (first | exact Below.refl _ _ | assumption | exact Bel.refl _ | refine Bel.alloc ?_ _ | refine Bel.drew ?_ | refine Bel.drewN ?_ _ | refine Bel.then_ ?_ (by assumption) | refine Bel.setCell ?_ (by first | (simp;done) | (simp;omega)) _))⟩
theorem sckf_any (z:Int) (x:Val) (w:World):Calls Tryz.prog 215 #[.int .i64 z,x.v] w fun e w'=>e = .returned (.bool (decide ((x.b.size:Int)≤z)))∧Bel w w':=by
 obtain ⟨k,n,u,b⟩:=x
 unfold Val.v
 dsimp only
 go_enter Tryz.func215,Tryz.ntmps215
 go_wp2
 go_ret
 exact ⟨rfl,by (repeat (first | exact Below.refl _ _ | assumption | exact Bel.refl _ | refine Bel.alloc ?_ _ | refine Bel.drew ?_ | refine Bel.drewN ?_ _ | refine Bel.then_ ?_ (by assumption) | refine Bel.setCell ?_ (by first | (simp;done) | (simp;omega)) _))⟩
theorem skLook1 {t:Int} (h1 : 1≤t) (h4:t≤4) {b:Nat} {V:World} (hb:V.heap[b]? = some (.map skMap 4)) :
 (Instr.lookup 245 (.map (some b)) (.int .i64 t) false).run Tryz.prog V = .ok (skOf t) V:=by
 have hc:t=1 ∨ t=2 ∨ t=3 ∨ t=4:=by omega
 rcases hc with rfl | rfl | rfl | rfl
 ·exact run_lookup_int (k:=.i64) Tryz.underlying245 Tryz.underlying65 (i:=0) rfl hb
 ·exact run_lookup_int (k:=.i64) Tryz.underlying245 Tryz.underlying65 (i:=1) rfl hb
 ·exact run_lookup_int (k:=.i64) Tryz.underlying245 Tryz.underlying65 (i:=2) rfl hb
 ·exact run_lookup_int (k:=.i64) Tryz.underlying245 Tryz.underlying65 (i:=3) rfl hb
theorem skFit_is {t:Int} (h1 : 1≤t) (h4:t≤4) : ∃ f g,skOf t=skV f g t∧(∀ args w,(callFunc g args).run Tryz.prog w = .ok (.enter g args) w) ∧
 ∀ z,sizeB t z=true → ∀ x:Val,x.Wf → ∀ w,Calls Tryz.prog g #[.int .i64 z,x.v] w fun e w'=>e = .returned (.bool (fitB t z x))∧Bel w w':=by
 have hc:t=1 ∨ t=2 ∨ t=3 ∨ t=4:=by omega
 rcases hc with rfl | rfl | rfl | rfl
 ·exact ⟨_,_,rfl,enters_of Tryz.func210 (by kernel_rfl) rfl,fun z hz x hx w=>scka_any z (of_decide_eq_true hz) x hx w⟩
 ·exact ⟨_,_,rfl,enters_of Tryz.func211 (by kernel_rfl) rfl,fun z hz x hx w=>sckb_any z (of_decide_eq_true hz) x hx w⟩
 ·exact ⟨_,_,rfl,enters_of Tryz.func213 (by kernel_rfl) rfl,fun z hz x hx w=>sckd_any z x w⟩
 ·exact ⟨_,_,rfl,enters_of Tryz.func215 (by kernel_rfl) rfl,fun z hz x hx w=>sckf_any z x w⟩
def fitsI (c:Col) (x:Val):Int:=if rightB c=false then 2 else if checkI x ≠ 0 then checkI x else if x.k=0 then (if c.null then 0 else 131) else if x.k ≠ c.t then 132 else if fitB c.t c.z x=false then 133 else 0
def SErr (w:World) (v:Value) (k:Int):Prop:=(k=0∧v = .nilIface) ∨ (k ≠ 0 ∧ ∃ p,v = .iface 240 (.pointer (some ⟨p,0,none⟩))∧SFaultAt w p k)
theorem SErr.bel {w w':World} {v:Value} {k:Int} (h:SErr w v k) (hb:Bel w w'):SErr w' v k:=by
 rcases h with h | ⟨h1,p,h2,h3⟩
 ·exact .inl h
 ·exact .inr ⟨h1,p,h2,h3.bel hb⟩
theorem scnumber_any {w:World} {v:Value} {k:Int} (hg:ErrType w) (h:SErr w v k):Calls Tryz.prog 173 #[v] w fun e w'=>e = .returned (.int .i64 k)∧Bel w w':=by
 rcases h with ⟨rfl,rfl⟩ | ⟨h1,p,rfl,h3⟩
 ·exact scnumber_nil w
 ·exact scnumber_fault p k w hg h3
set_option maxRecDepth 100000 in
set_option maxHeartbeats 4000000 in
theorem scfits_any (c:Col) (x:Val) (hx:x.Wf) (w:World):Calls Tryz.prog 174 #[c.v,x.v] w fun e w'=>∃ v,e = .returned v∧SErr w' v (fitsI c x)∧Bel w w':=by
 have HRI:=Lib.hid (fun V=>scright_any c V)
 have HCH:=Lib.hid (fun V=>vCheck_any x V)
 have HF:Hid (∀ i,i=fitsI c x→SErr w .nilIface i ∨ True):=fun _ _=>.inr trivial
 obtain ⟨R,hR⟩ : ∃ R,R=fitsI c x:=⟨_,rfl⟩
 rw [← hR]
 have HR:=Lib.hid hR
 clear hR HF
 obtain ⟨rb,hrb⟩ : ∃ rb,rb=rightB c:=⟨_,rfl⟩
 rw [← hrb] at HRI
 have HRB:=Lib.hid hrb
 obtain ⟨ci,hci⟩ : ∃ ci,ci=checkI x:=⟨_,rfl⟩
 rw [← hci] at HCH
 have HCI:=Lib.hid hci
 clear hrb hci
 obtain ⟨name,t,z,null⟩:=c
 obtain ⟨k,n,u,b⟩:=x
 unfold Val.v Col.v at *
 dsimp only at *
 have HCL:Hid (∀ V,Bel ((w.alloc (.cells #[.string name,.int .i64 t,.int .i64 z,.bool null] 67)).alloc (.cells #[.int .i64 k,.int .i64 n,.int .u64 u,.string b] 64)) V →
  (V.cell? ⟨w.heap.size,0,none⟩=some (.string name)∧V.cell? ⟨w.heap.size,1,none⟩=some (.int .i64 t)∧V.cell? ⟨w.heap.size,2,none⟩=some (.int .i64 z)∧V.cell? ⟨w.heap.size,3,none⟩=some (.bool null) ∧
   V.cell? ⟨w.heap.size+1,0,none⟩=some (.int .i64 k)∧V.cell? ⟨w.heap.size+1,1,none⟩=some (.int .i64 n)∧V.cell? ⟨w.heap.size+1,2,none⟩=some (.int .u64 u)∧V.cell? ⟨w.heap.size+1,3,none⟩=some (.string b))∧Bel w V) :=
  fun V h=>⟨⟨h.c (by go_simp),h.c (by go_simp),h.c (by go_simp),h.c (by go_simp),h.c (by go_simp),h.c (by go_simp),h.c (by go_simp),h.c (by go_simp)⟩,(((Bel.refl w).alloc _).alloc _).then_ h⟩
 have HLD:Hid (∀ V:World,V.cell? ⟨w.heap.size,0,none⟩=some (.string name)∧V.cell? ⟨w.heap.size,1,none⟩=some (.int .i64 t)→True):=fun _ _=>trivial
 clear HLD
 cases rb
 ·have hR2:R=2:=by rw [HR.out];unfold fitsI;rw [if_pos HRB.out.symm]
  go_enter Tryz.func174,Tryz.ntmps174
  go_wp2_with (go_at_call 176;refine (HRI.out _).mono ?_;rintro e w4 ⟨rfl,hb4⟩;obtain ⟨⟨a0,a1,a2,a3,c0,c1,c2,c3⟩,hB4⟩:=HCL.out _ hb4)
  go_ret
  exact ⟨_,rfl,.inr ⟨by omega,_,rfl,_,by rw [hR2];exact World.alloc_heap_new _ _⟩,hB4.alloc _⟩
 ·by_cases hc0:ci=0
  ·subst hc0
   have HT:Hid (1≤t∧t≤4):=by show _∧_;have h:=HRB.out;unfold rightB at h;simp at h;exact h.1.1
   have HSZ:Hid (sizeB t z=true):=by show _=_;have h:=HRB.out;unfold rightB at h;simp at h;exact h.2
   go_enter Tryz.func174,Tryz.ntmps174
   go_wp2_with (first | (go_at_call 176;refine (HRI.out _).mono ?_;rintro e w4 ⟨rfl,hb4⟩;obtain ⟨⟨a0,a1,a2,a3,c0,c1,c2,c3⟩,hB4⟩:=HCL.out _ hb4) | (go_at_call 94;refine (HCH.out _).mono ?_;rintro e w5 ⟨rfl,hb5⟩;obtain ⟨⟨d0,d1,d2,d3,e0,e1,e2,e3⟩,hB5⟩:=HCL.out _ (hb4.then_ hb5)))
   obtain ⟨f,g,hsk,egg,hfit⟩:=skFit_is HT.out.1 HT.out.2
   have HLO:=Lib.hid (fun (b:Nat) (V:World) (hb:V.heap[b]? = some (.map skMap 4))=>skLook1 HT.out.1 HT.out.2 hb)
   rw [hsk] at HLO
   unfold skV at HLO
   have HGF:=Lib.hid (fun V=>hfit z HSZ.out ⟨k,n,u,b⟩ hx V)
   clear hfit hsk hx
   obtain ⟨fb,hfb⟩ : ∃ fb,fb=fitB t z ⟨k,n,u,b⟩:=⟨_,rfl⟩
   rw [← hfb] at HGF
   have HFB:=Lib.hid hfb
   clear hfb
   have HB45:=Lib.hid (hb4.then_ hb5)
   have hS : ∀ V,Bel w5 V→(Bel w5 V∧V.cell? ⟨w.heap.size,1,none⟩=some (.int .i64 t)):=fun V h=>⟨h,h.c d1⟩
   clear a0 a1 a2 a3 c0 c1 c2 c3 hB4 hb4 hb5
   apply wp_cut2 (R:=fun bm bx V=>Bel w5 V∧V.cell? ⟨bx,1,none⟩=some (.int .i64 t)∧V.cell? ⟨bx,2,none⟩=some (.func (.func g) #[] #[]))
   case h =>
    refine wp_region_noPanic ?_
    refine wp_region_held_drew (S:=(fun V:World=>Bel w5 V∧V.cell? ⟨w.heap.size,1,none⟩=some (.int .i64 t))) (by kernel_rfl) ?_ (fun hHr9_0=>?_)
    ·(try dsimp only);(first | assumption | exact hS _ (Bel.refl w5).drew | exact hS _ hB2 | exact hS _ (Bel.alloc hB2 _) | exact hS _ (Bel.alloc (Bel.refl w5).drew _) | exact hS _ (Bel.setCell (Bel.setCell (Bel.setCell hB2 (Nat.le_refl _) _) (Nat.le_refl _) _) (Nat.le_refl _) _))
    refine tk 1 ?_
    refine tk 2 ?_
    refine wpAnyH_ready (rs:=[0,4]) (by kernel_rfl) (by simp) ?_
    refine AllReadyH.cons (o:=_) rfl (fun K hK=>?_) (AllReadyH.cons (o:=_) rfl (fun K hK=>?_) (AllReadyH.nil))
    ·go_simp
     (go_at_call 192;refine (sckinds_any _).mono ?_;rintro e w2 ⟨bm,rfl,hm,hb2⟩;have hB2:Bel w5 w2:=Bel.then_ (Bel.refl w5).drew hb2)
     try (go_wp2_with fail)
     refine hK.out _ _ ?_ (fun hHr9_1=>?_)
     ·(try dsimp only);(first | assumption | exact hS _ (Bel.refl w5).drew | exact hS _ hB2 | exact hS _ (Bel.alloc hB2 _) | exact hS _ (Bel.alloc (Bel.refl w5).drew _) | exact hS _ (Bel.setCell (Bel.setCell (Bel.setCell hB2 (Nat.le_refl _) _) (Nat.le_refl _) _) (Nat.le_refl _) _))
     clear hK K hHr9_0
     try simp only [tkp0,tkp1,tkp2,tkp3,tkp4,tkp5,tkp6,tkp7]
     refine wpAnyH_ready (rs:=[3,4]) (by kernel_rfl) (by simp) ?_
     refine AllReadyH.cons (o:=_) rfl (fun K hK=>?_) (AllReadyH.cons (o:=_) rfl (fun K hK=>?_) (AllReadyH.nil))
     ·go_simp
      ((have hlk:=HLO.out bm _ hm);go_simp)
      refine hK.out _ _ ?_ (fun hHr9_2=>?_)
      ·(try dsimp only);(first | assumption | exact hS _ (Bel.refl w5).drew | exact hS _ hB2 | exact hS _ (Bel.alloc hB2 _) | exact hS _ (Bel.alloc (Bel.refl w5).drew _) | exact hS _ (Bel.setCell (Bel.setCell (Bel.setCell hB2 (Nat.le_refl _) _) (Nat.le_refl _) _) (Nat.le_refl _) _))
      clear hK K hHr9_1
      try simp only [tkp0,tkp1,tkp2,tkp3,tkp4,tkp5,tkp6,tkp7]
      refine rd1 4 (fun K hK=>?_)
      go_simp
      refine hK.out _ _ ?_ (fun hHr9_3=>?_)
      ·(try dsimp only);(first | assumption | exact hS _ (Bel.refl w5).drew | exact hS _ hB2 | exact hS _ (Bel.alloc hB2 _) | exact hS _ (Bel.alloc (Bel.refl w5).drew _) | exact hS _ (Bel.setCell (Bel.setCell (Bel.setCell hB2 (Nat.le_refl _) _) (Nat.le_refl _) _) (Nat.le_refl _) _))
      clear hK K hHr9_2
      try simp only [tkp0,tkp1,tkp2,tkp3,tkp4,tkp5,tkp6,tkp7]
      refine rd1 5 (fun K hK=>?_)
      go_simp
      refine hK.out _ _ ?_ (fun hHr9_4=>?_)
      ·(try dsimp only);(first | assumption | exact hS _ (Bel.refl w5).drew | exact hS _ hB2 | exact hS _ (Bel.alloc hB2 _) | exact hS _ (Bel.alloc (Bel.refl w5).drew _) | exact hS _ (Bel.setCell (Bel.setCell (Bel.setCell hB2 (Nat.le_refl _) _) (Nat.le_refl _) _) (Nat.le_refl _) _))
      clear hK K hHr9_3
      try simp only [tkp0,tkp1,tkp2,tkp3,tkp4,tkp5,tkp6,tkp7]
      refine wpAnyH_done (by kernel_rfl) ?_ _
      refine NoPanic.normal ?_
      (refine ⟨bm,w2.heap.size,rfl,?_,hHr9_4.1,by go_simp,by go_simp⟩;generalize w2.heap.size=bx;exact rfl)
     ·go_simp
      refine hK.out _ _ ?_ (fun hHr9_2=>?_)
      ·(try dsimp only);(first | assumption | exact hS _ (Bel.refl w5).drew | exact hS _ hB2 | exact hS _ (Bel.alloc hB2 _) | exact hS _ (Bel.alloc (Bel.refl w5).drew _) | exact hS _ (Bel.setCell (Bel.setCell (Bel.setCell hB2 (Nat.le_refl _) _) (Nat.le_refl _) _) (Nat.le_refl _) _))
      clear hK K hHr9_1
      try simp only [tkp0,tkp1,tkp2,tkp3,tkp4,tkp5,tkp6,tkp7]
      refine rd1 3 (fun K hK=>?_)
      go_simp
      ((have hlk:=HLO.out bm _ (((Bel.refl w2).alloc (.cells #[.nilFunc,.int .i64 0,.nilFunc] 244)).deferred hm));go_simp)
      refine hK.out _ _ ?_ (fun hHr9_3=>?_)
      ·(try dsimp only);(first | assumption | exact hS _ (Bel.refl w5).drew | exact hS _ hB2 | exact hS _ (Bel.alloc hB2 _) | exact hS _ (Bel.alloc (Bel.refl w5).drew _) | exact hS _ (Bel.setCell (Bel.setCell (Bel.setCell hB2 (Nat.le_refl _) _) (Nat.le_refl _) _) (Nat.le_refl _) _))
      clear hK K hHr9_2
      try simp only [tkp0,tkp1,tkp2,tkp3,tkp4,tkp5,tkp6,tkp7]
      refine rd1 5 (fun K hK=>?_)
      go_simp
      refine hK.out _ _ ?_ (fun hHr9_4=>?_)
      ·(try dsimp only);(first | assumption | exact hS _ (Bel.refl w5).drew | exact hS _ hB2 | exact hS _ (Bel.alloc hB2 _) | exact hS _ (Bel.alloc (Bel.refl w5).drew _) | exact hS _ (Bel.setCell (Bel.setCell (Bel.setCell hB2 (Nat.le_refl _) _) (Nat.le_refl _) _) (Nat.le_refl _) _))
      clear hK K hHr9_3
      try simp only [tkp0,tkp1,tkp2,tkp3,tkp4,tkp5,tkp6,tkp7]
      refine wpAnyH_done (by kernel_rfl) ?_ _
      refine NoPanic.normal ?_
      (refine ⟨bm,w2.heap.size,rfl,?_,hHr9_4.1,by go_simp,by go_simp⟩;generalize w2.heap.size=bx;exact rfl)
    ·go_simp
     refine hK.out _ _ ?_ (fun hHr9_1=>?_)
     ·(try dsimp only);(first | assumption | exact hS _ (Bel.refl w5).drew | exact hS _ hB2 | exact hS _ (Bel.alloc hB2 _) | exact hS _ (Bel.alloc (Bel.refl w5).drew _) | exact hS _ (Bel.setCell (Bel.setCell (Bel.setCell hB2 (Nat.le_refl _) _) (Nat.le_refl _) _) (Nat.le_refl _) _))
     clear hK K hHr9_0
     try simp only [tkp0,tkp1,tkp2,tkp3,tkp4,tkp5,tkp6,tkp7]
     refine rd1 0 (fun K hK=>?_)
     go_simp
     (go_at_call 192;refine (sckinds_any _).mono ?_;rintro e w2 ⟨bm,rfl,hm,hb2⟩;have hB2:Bel w5 w2:=Bel.then_ (Bel.alloc (Bel.refl w5).drew _) hb2;have z0:w2.cell? ⟨w5.heap.size,0,none⟩=some .nilFunc:=hb2.c (by go_simp);have y0:w2.frozen? ⟨w5.heap.size,0,none⟩=false:=(Below.frozen hb2 (by simp)).trans (by go_simp);have z1:w2.cell? ⟨w5.heap.size,1,none⟩=some (.int .i64 0):=hb2.c (by go_simp);have y1:w2.frozen? ⟨w5.heap.size,1,none⟩=false:=(Below.frozen hb2 (by simp)).trans (by go_simp);have z2:w2.cell? ⟨w5.heap.size,2,none⟩=some .nilFunc:=hb2.c (by go_simp);have y2:w2.frozen? ⟨w5.heap.size,2,none⟩=false:=(Below.frozen hb2 (by simp)).trans (by go_simp))
     try (go_wp2_with fail)
     refine hK.out _ _ ?_ (fun hHr9_2=>?_)
     ·(try dsimp only);(first | assumption | exact hS _ (Bel.refl w5).drew | exact hS _ hB2 | exact hS _ (Bel.alloc hB2 _) | exact hS _ (Bel.alloc (Bel.refl w5).drew _) | exact hS _ (Bel.setCell (Bel.setCell (Bel.setCell hB2 (Nat.le_refl _) _) (Nat.le_refl _) _) (Nat.le_refl _) _))
     clear hK K hHr9_1
     try simp only [tkp0,tkp1,tkp2,tkp3,tkp4,tkp5,tkp6,tkp7]
     refine rd1 3 (fun K hK=>?_)
     go_simp
     ((have hlk:=HLO.out bm _ hm);go_simp)
     refine hK.out _ _ ?_ (fun hHr9_3=>?_)
     ·(try dsimp only);(first | assumption | exact hS _ (Bel.refl w5).drew | exact hS _ hB2 | exact hS _ (Bel.alloc hB2 _) | exact hS _ (Bel.alloc (Bel.refl w5).drew _) | exact hS _ (Bel.setCell (Bel.setCell (Bel.setCell hB2 (Nat.le_refl _) _) (Nat.le_refl _) _) (Nat.le_refl _) _))
     clear hK K hHr9_2
     try simp only [tkp0,tkp1,tkp2,tkp3,tkp4,tkp5,tkp6,tkp7]
     refine rd1 5 (fun K hK=>?_)
     go_simp
     refine hK.out _ _ ?_ (fun hHr9_4=>?_)
     ·(try dsimp only);(first | assumption | exact hS _ (Bel.refl w5).drew | exact hS _ hB2 | exact hS _ (Bel.alloc hB2 _) | exact hS _ (Bel.alloc (Bel.refl w5).drew _) | exact hS _ (Bel.setCell (Bel.setCell (Bel.setCell hB2 (Nat.le_refl _) _) (Nat.le_refl _) _) (Nat.le_refl _) _))
     clear hK K hHr9_3
     try simp only [tkp0,tkp1,tkp2,tkp3,tkp4,tkp5,tkp6,tkp7]
     refine wpAnyH_done (by kernel_rfl) ?_ _
     refine NoPanic.normal ?_
     (refine ⟨bm,w5.heap.size,rfl,?_,hHr9_4.1,by go_simp,by go_simp⟩;generalize w5.heap.size=bx;exact rfl)
   case k =>
    rintro bm bx V ⟨hb,hk1,hk2⟩
    obtain ⟨⟨a0,a1,a2,a3,c0,c1,c2,c3⟩,hBV⟩:=HCL.out _ (HB45.out.then_ hb)
    have HBV:=Lib.hid hBV
    have HBB:=Lib.hid (HB45.out.then_ hb)
    clear d0 d1 d2 d3 e0 e1 e2 e3 hB5 hS hb hBV HB45
    by_cases hk0:k=0
    ·subst hk0
     cases null
     ·have hR2:R=131:=by rw [HR.out];unfold fitsI;rw [if_neg (by rw [← HRB.out];simp),if_neg (by rw [← HCI.out];simp)];rfl
      go_wp2
      go_ret
      exact ⟨_,rfl,.inr ⟨by omega,_,rfl,_,by rw [hR2];exact World.alloc_heap_new _ _⟩,HBV.out.alloc _⟩
     ·have hR2:R=0:=by rw [HR.out];unfold fitsI;rw [if_neg (by rw [← HRB.out];simp),if_neg (by rw [← HCI.out];simp)];rfl
      go_wp2
      go_ret
      exact ⟨_,rfl,.inl ⟨hR2,rfl⟩,HBV.out⟩
    ·have hk0b:(k == 0)=false:=by rw [beq_eq_false_iff_ne];exact hk0
     by_cases hkt:k=t
     ·subst hkt
      have hktb:(k != k)=false:=by simp
      have hR2:R=if fb=false then 133 else 0:=by
       rw [HR.out];unfold fitsI;rw [if_neg (by rw [← HRB.out];simp),if_neg (by rw [← HCI.out];simp),if_neg hk0,if_neg (by intro h;exact h rfl),HFB.out]
      cases fb
      ·go_wp2_with (go_at_fn g;refine (HGF.out _).mono ?_;rintro e w8 ⟨rfl,hb8⟩;obtain ⟨⟨d0,d1,d2,d3,e0,e1,e2,e3⟩,hB8⟩:=HCL.out _ (HBB.out.then_ hb8))
       go_ret
       exact ⟨_,rfl,.inr ⟨by rw [hR2];decide,_,rfl,_,by rw [hR2];exact World.alloc_heap_new _ _⟩,hB8.alloc _⟩
      ·go_wp2_with (go_at_fn g;refine (HGF.out _).mono ?_;rintro e w8 ⟨rfl,hb8⟩;obtain ⟨⟨d0,d1,d2,d3,e0,e1,e2,e3⟩,hB8⟩:=HCL.out _ (HBB.out.then_ hb8))
       go_ret
       exact ⟨_,rfl,.inl ⟨by rw [hR2];rfl,rfl⟩,hB8⟩
     ·have hktb:(k != t)=true:=by rw [bne_iff_ne];exact hkt
      have hR2:R=132:=by
       rw [HR.out];unfold fitsI;rw [if_neg (by rw [← HRB.out];simp),if_neg (by rw [← HCI.out];simp),if_neg hk0,if_pos hkt]
      go_wp2
      go_ret
      exact ⟨_,rfl,.inr ⟨by omega,_,rfl,_,by rw [hR2];exact World.alloc_heap_new _ _⟩,HBV.out.alloc _⟩
  ·have hcb:(ci == 0)=false:=by rw [beq_eq_false_iff_ne];exact hc0
   have hR2:R=ci:=by rw [HR.out];unfold fitsI;rw [if_neg (by rw [← HRB.out];simp),if_pos (by rw [← HCI.out];exact hc0),HCI.out]
   go_enter Tryz.func174,Tryz.ntmps174
   go_wp2_with (first | (go_at_call 176;refine (HRI.out _).mono ?_;rintro e w4 ⟨rfl,hb4⟩;obtain ⟨⟨a0,a1,a2,a3,c0,c1,c2,c3⟩,hB4⟩:=HCL.out _ hb4) | (go_at_call 94;refine (HCH.out _).mono ?_;rintro e w5 ⟨rfl,hb5⟩;obtain ⟨⟨d0,d1,d2,d3,e0,e1,e2,e3⟩,hB5⟩:=HCL.out _ (hb4.then_ hb5)))
   go_ret
   exact ⟨_,rfl,.inr ⟨by omega,_,rfl,_,by rw [hR2];exact World.alloc_heap_new _ _⟩,hB5.alloc _⟩
theorem scFits_any (c:Col) (x:Val) (hx:x.Wf) (w:World) (hg:ErrType w):Calls Tryz.prog 129 #[c.v,x.v] w fun e w'=>e = .returned (.int .i64 (fitsI c x))∧Bel w w':=by
 have HF:=Lib.hid (fun V=>scfits_any c x hx V)
 have HG:=Lib.hid hg
 obtain ⟨R,hR⟩ : ∃ R,R=fitsI c x:=⟨_,rfl⟩
 rw [← hR] at HF ⊢
 clear hR hg
 obtain ⟨name,t,z,null⟩:=c
 obtain ⟨k,n,u,b⟩:=x
 unfold Val.v Col.v at *
 dsimp only at *
 go_enter Tryz.func129,Tryz.ntmps129
 go_wp2_with fail
 refine (HF.out _).mono ?_
 rintro e w1 ⟨v,rfl,hv,hb⟩
 have hbb:Bel w w1:=(((Bel.refl w).alloc _).alloc _).then_ hb
 have HN:=Lib.hid (scnumber_any (HG.out.bel hbb) hv)
 have HB:=Lib.hid hbb
 clear hv hb hbb HF
 go_wp2_with (go_at_call 173;refine HN.out.mono ?_;rintro e w2 ⟨rfl,hb2⟩)
 go_ret
 exact ⟨rfl,HB.out.then_ hb2⟩
end
section
open Go.RowKit Go.Shelf Go.Lib
attribute [local go_sem] Oper.semAt_some
theorem letterB_high {c:Nat} (h : 128≤c) (f:Bool):letterB f c=false:=by
 unfold letterB
 rw [if_neg (by omega),decide_eq_false (by omega)]
theorem idxR_letters (s:ByteArray) : ∀ f pos,s.size≤pos+f→(¬ 0≤idxR (fun c=>!letterB false c) s f pos ↔ ∀ i (h:i<s.size),pos≤i→letterB false ((s[i]'h).toNat:Int)=true)
 | 0,pos,hf=>by
   unfold idxR
   exact ⟨fun _ i h hp=>by omega,fun _=>by omega⟩
 | f+1,pos,hf=>by
   unfold idxR
   by_cases hps:pos<s.size
   ·rw [if_pos hps]
    by_cases ha:(s[pos]'hps).toNat<128
    ·rw [decode_ascii s pos hps ha]
     by_cases hl:letterB false ((s[pos]'hps).toNat:Int)=true
     ·rw [if_neg (by simp [hl])]
      rw [idxR_letters s f (pos+1) (by omega)]
      constructor
      ·intro h i hi hp
       by_cases e:i=pos
       ·subst e;exact hl
       ·exact h i hi (by omega)
      ·intro h i hi hp
       exact h i hi (by omega)
     ·rw [if_pos (by simpa using hl)]
      constructor
      ·intro h;omega
      ·intro h;exact absurd (h pos hps (Nat.le_refl _)) hl
    ·have hd:=decode_high s pos hps (by omega)
     rw [if_pos (by rw [letterB_high hd.1];rfl)]
     constructor
     ·intro h;omega
     ·intro h
      have:=h pos hps (Nat.le_refl _)
      rw [letterB_high (by omega)] at this
      cases this
   ·rw [if_neg hps]
    exact ⟨fun _ i h hp=>by omega,fun _=>by omega⟩
theorem namedB_iff (s:ByteArray):namedB s=true ↔ (1≤s.size∧s.size≤24) ∧ ∀ i (h:i<s.size),letterB (decide (i=0)) ((s[i]'h).toNat:Int)=true:=by
 unfold namedB runesFine
 split
 ·rename_i h
  rw [Bool.and_eq_true,Bool.not_eq_true',decide_eq_false_iff_not,idxR_letters s s.size 0 (by omega)]
  constructor
  ·rintro ⟨h1,h2⟩
   refine ⟨h,fun i hi=>?_⟩
   by_cases e:i=0
   ·subst e;simpa using h1
   ·rw [decide_eq_false e];exact h2 i hi (Nat.zero_le _)
  ·rintro ⟨-,h2⟩
   refine ⟨by simpa using h2 0 (by omega),fun i hi _=>?_⟩
   have:=h2 i hi
   by_cases e:i=0
   ·subst e
    unfold letterB at this ⊢
    split <;> simp_all
   ·rwa [decide_eq_false e] at this
 ·rename_i h
  exact ⟨(fun e=>by cases e),(fun e=>absurd e.1 h)⟩
end
section
open Go.RowKit Go.Shelf Go.Lib
attribute [local go_sem] Oper.semAt_some
def IntsAt (w:World) (v:Value) (l:List Int):Prop:=∃ A c,v = .slice A l.length c∧l.length≤c∧c≤maxLen∧(0<l.length → ∃ b off,A=some ⟨b,off,none⟩ ∧ ∀ i n,l[i]? = some n→w.cell? ⟨b,off+i,none⟩=some (.int .i64 n))
theorem IntsAt.bel {w w':World} {v:Value} {l:List Int} (h:IntsAt w v l) (hb:Bel w w'):IntsAt w' v l:=by
 obtain ⟨A,c,e,hc,hm,h⟩:=h
 exact ⟨A,c,e,hc,hm,fun hl=>by obtain ⟨b,off,ea,hi⟩:=h hl;exact ⟨b,off,ea,fun i n hn=>hb.c (hi i n hn)⟩⟩
theorem IntsAt.take {w:World} {A:Option Addr} {c:Nat} {l:List Int} (h:IntsAt w (.slice A l.length c) l) (k:Nat) (hk:k≤l.length):IntsAt w (.slice A k c) (l.take k):=by
 obtain ⟨A',c',e,hc,hm,h⟩:=h
 cases e
 have e:(l.take k).length=k:=by rw [List.length_take];omega
 refine ⟨A,c,by rw [e],by omega,hm,fun hl=>?_⟩
 obtain ⟨b,off,ea,hi⟩:=h (by omega)
 exact ⟨b,off,ea,fun i n hn=>hi i n (by
  have hlt:=(List.getElem?_eq_some_iff.1 hn).1
  rw [List.getElem?_take,if_pos (by omega)] at hn
  exact hn)⟩
theorem slIndexInt_any (v:Value) (l:List Int) (x:Int) (w:World) (h:IntsAt w v l):Calls Tryz.prog 216 #[v,.int .i64 x] w fun e w'=>(∃ i:Int,e = .returned (.int .i64 i)∧(0≤i ↔ x ∈ l))∧w=w':=by
 obtain ⟨A,c,rfl,hc,hm,hr⟩:=h
 have HRR:=Lib.hid hr
 have hlI:(l.length:Int)≤9223372036854775807:=by unfold maxLen at hm;omega
 clear hr hm
 go_enter Tryz.func216,Tryz.ntmps216
 go_wp2
 go_loopw [8] (fun i wr=>∃ k:Nat,k≤l.length∧i = .int .i64 k∧wr=w∧Hid (x ∉ l.take k)) (fun i _=>l.length - (intOf i).toNat)
 case atStart=>exact ⟨0,Nat.zero_le _,rfl,rfl,by show _ ∉ _;simp⟩
 case round =>
  obtain ⟨k,hk,rfl,hwr,HT⟩:=hrel
  have hwr':=hwr.symm
  clear hwr
  subst hwr'
  by_cases hlt:k<l.length
  ·obtain ⟨y,hy⟩ : ∃ y,l[k]? = some y:=⟨_,List.getElem?_eq_getElem hlt⟩
   obtain ⟨b,off,rfl,hi⟩:=HRR.out (by omega)
   have hc1:=hi k y hy
   have hkI:(k:Int)<l.length:=by omega
   have HMEM:Hid (y ∈ l):=List.mem_of_getElem? hy
   have HNX:Hid (¬ x=y→x ∉ l.take (k+1)):=fun e=>by
    rw [List.take_add_one,hy]
    intro hm
    rcases List.mem_append.1 hm with hm | hm
    ·exact HT.out hm
    ·simp at hm;exact e hm
   clear hi hy
   by_cases hxy:x=y
   ·subst hxy
    go_wp2
    go_ret
    exact ⟨⟨(k:Int),rfl,by constructor <;> intro _ <;> first | exact HMEM.out | omega⟩,rfl⟩
   ·have hb:(x == y)=false:=by rw [beq_eq_false_iff_ne];exact hxy
    go_wp2
    go_roundw
    case rel=>exact ⟨k+1,by omega,by go_num,by first | rfl | trivial,HNX.out hxy⟩
    case measure=>simp [intOf];omega
  ·obtain rfl:k=l.length:=by omega
   have HN:Hid (x ∉ l):=by show _ ∉ _;have:=HT.out;rwa [List.take_length] at this
   clear HT hlt hk
   go_wp2
   go_ret
   exact ⟨⟨-1,rfl,by constructor <;> intro h <;> first | exact absurd h HN.out | (exfalso;omega)⟩,rfl⟩
theorem slContainsInt_any (v:Value) (l:List Int) (x:Int) (w:World) (h:IntsAt w v l):Calls Tryz.prog 193 #[v,.int .i64 x] w fun e w'=>e = .returned (.bool (decide (x ∈ l)))∧w=w':=by
 have HI:=Lib.hid (slIndexInt_any v l x w h)
 obtain ⟨A,c,rfl,-⟩:=h
 obtain ⟨R,hR⟩ : ∃ R,R=decide (x ∈ l):=⟨_,rfl⟩
 rw [← hR]
 have HR:=Lib.hid hR
 clear hR
 go_enter Tryz.func193,Tryz.ntmps193
 go_wp2_with fail
 refine HI.out.mono ?_
 rintro e w' ⟨⟨i,rfl,hi⟩,rfl⟩
 have hd:decide (x ∈ l)=decide (0≤i):=by by_cases h:x ∈ l <;> simp [h,hi]
 have HRD:Hid (R=decide (0≤i)):=by show _=_;rw [HR.out,hd]
 clear hi hd HI
 go_wp2
 go_ret
 exact ⟨by rw [HRD.out];rfl,rfl⟩
def inB (l:List Int) (many:Int) (i:Nat):Bool:=decide (0≤l.getD i 0∧l.getD i 0<many∧l.getD i 0 ∉ l.take i)
def setB (l:List Int) (many:Int):Bool:=decide (1≤l.length∧l.length≤4) && (List.range l.length).all (inB l many)
theorem setB_false {l:List Int} {many:Int} {i:Nat} (hi:i<l.length) (h:inB l many i=false):setB l many=false:=by
 unfold setB
 rw [Bool.and_eq_false_iff]
 right
 rw [List.all_eq_false]
 exact ⟨i,List.mem_range.2 hi,by simp [h]⟩
theorem setB_true {l:List Int} {many:Int} (hl : 1≤l.length∧l.length≤4) (h : ∀ i,i<l.length→inB l many i=true):setB l many=true:=by
 unfold setB
 rw [decide_eq_true hl,Bool.true_and,List.all_eq_true]
 intro i hi
 exact h i (List.mem_range.1 hi)
set_option maxHeartbeats 2000000 in
theorem lookset_any (Ac:Option Addr) (many cc:Nat) (hmany:many≤maxLen) (vk vu v:Value) (l:List Int) (w:World) (h:IntsAt w v l):Calls Tryz.prog 175 #[.agg #[.slice Ac many cc,vk,vu],v] w fun e w'=>e = .returned (.bool (setB l many))∧Bel w w':=by
 obtain ⟨R,hR⟩ : ∃ R,R=setB l many:=⟨_,rfl⟩
 rw [← hR]
 have HR:=Lib.hid hR
 clear hR
 obtain ⟨W,hW⟩ : ∃ W,W=w.alloc (.cells #[.slice Ac many cc,vk,vu] 190):=⟨_,rfl⟩
 have hbW:Bel w W:=by rw [hW];exact (Bel.refl w).alloc _
 have h2:=h.bel hbW
 have hc0:W.cell? ⟨w.heap.size,0,none⟩=some (.slice Ac many cc):=by rw [hW];go_simp
 obtain ⟨A,c,rfl,hcl,hm,hr⟩:=id h2
 have HV:=Lib.hid h2
 have HB:=Lib.hid hbW
 have hlI:(l.length:Int)≤9223372036854775807:=by unfold maxLen at hm;omega
 have hclI:(l.length:Int)≤c:=by omega
 have hmI:(many:Int)≤9223372036854775807:=by unfold maxLen at hmany;omega
 have HRR:=Lib.hid hr
 clear hr hm h h2 hbW hmany
 by_cases h1 : 1≤l.length
 ·by_cases h4:l.length≤4
  ·have h1b:decide ((l.length:Int)<1)=false:=by simp;omega
   have h4b:decide ((4:Int)<l.length)=false:=by simp;omega
   go_enter Tryz.func175,Tryz.ntmps175
   go_wp2
   rw [← hW]
   clear hW
   go_loopw [17] (fun i wr=>∃ k:Nat,k≤l.length∧i = .int .i64 k∧Hid (∀ j,j<k→inB l many j=true)∧wr=W) (fun i _=>l.length - (intOf i).toNat)
   case atStart=>exact ⟨0,Nat.zero_le _,rfl,fun j hj=>by omega,rfl⟩
   case round =>
    obtain ⟨k,hk,rfl,HT,hwr⟩:=hrel
    have hwr':=hwr.symm
    clear hwr
    subst hwr'
    by_cases hlt:k<l.length
    ·obtain ⟨x,hx⟩ : ∃ x,l[k]? = some x:=⟨_,List.getElem?_eq_getElem hlt⟩
     obtain ⟨b,off,rfl,hi⟩:=HRR.out (by omega)
     have hc1:=hi k x hx
     have hkI:(k:Int)<l.length:=by omega
     have hkc:(k:Int)≤c:=by omega
     have hgx:l.getD k 0=x:=by simp [List.getD,hx]
     have HIN:Hid (inB l many k=decide (0≤x∧x<many∧x ∉ l.take k)):=by show _=_;unfold inB;rw [hgx]
     have HC:=Lib.hid (slContainsInt_any _ (l.take k) x W (HV.out.take k hk))
     have HNX:Hid (inB l many k=true → ∀ j,j<k+1→inB l many j=true):=fun e j hj=>by
      by_cases ej:j=k
      ·subst ej;exact e
      ·exact HT.out j (by omega)
     have HNO:Hid (inB l many k=false→R=false):=fun e=>by rw [HR.out];exact setB_false hlt e
     have hk1:k+1≤l.length:=hlt
     clear hi hx hgx
     by_cases hx0:x<0
     ·have hf:=HNO.out (by rw [HIN.out];exact decide_eq_false (by omega))
      go_wp2_with (go_at_call 193;refine HC.out.mono ?_;rintro e w' ⟨rfl,rfl⟩)
      go_ret
      exact ⟨by first | rfl | (rw [hf];rfl),HB.out⟩
     ·have hx0b:decide (x<0)=false:=by simp;omega
      by_cases hxm:(many:Int)≤x
      ·have hf:=HNO.out (by rw [HIN.out];exact decide_eq_false (by omega))
       go_wp2_with (go_at_call 193;refine HC.out.mono ?_;rintro e w' ⟨rfl,rfl⟩)
       go_ret
       exact ⟨by first | rfl | (rw [hf];rfl),HB.out⟩
      ·have hxmb:decide ((many:Int)≤x)=false:=by simp;omega
       by_cases hxi:x ∈ l.take k
       ·have hf:=HNO.out (by rw [HIN.out];exact decide_eq_false (fun e=>e.2.2 hxi))
        rw [decide_eq_true hxi] at HC
        clear hxi
        go_wp2_with (go_at_call 193;refine HC.out.mono ?_;rintro e w' ⟨rfl,rfl⟩)
        go_ret
        exact ⟨by first | rfl | (rw [hf];rfl),HB.out⟩
       ·have ht:=HNX.out (by rw [HIN.out];exact decide_eq_true ⟨by omega,by omega,hxi⟩)
        have HTT:=Lib.hid ht
        rw [decide_eq_false hxi] at HC
        clear hxi ht
        go_wp2_with (go_at_call 193;refine HC.out.mono ?_;rintro e w' ⟨rfl,rfl⟩)
        go_roundw
        case rel=>exact ⟨k+1,by omega,by go_num,HTT.out,by first | rfl | trivial⟩
        case measure=>simp [intOf];omega
    ·obtain rfl:k=l.length:=by omega
     have ht:R=true:=by rw [HR.out];exact setB_true ⟨h1,h4⟩ HT.out
     clear HT
     go_wp2
     go_ret
     exact ⟨by first | rfl | (rw [ht];rfl),HB.out⟩
  ·have hf:R=false:=by rw [HR.out];unfold setB;rw [decide_eq_false (by omega)];rfl
   have h1b:decide ((l.length:Int)<1)=false:=by simp;omega
   have h4b:(4:Int)<l.length:=by omega
   subst hW
   go_enter Tryz.func175,Tryz.ntmps175
   go_wp2
   go_ret
   exact ⟨by first | rfl | (rw [hf];rfl),HB.out⟩
 ·have hf:R=false:=by rw [HR.out];unfold setB;rw [decide_eq_false (by omega)];rfl
  have h1b:(l.length:Int)<1:=by omega
  subst hW
  go_enter Tryz.func175,Tryz.ntmps175
  go_wp2
  all_goals
   go_ret
   exact ⟨by first | rfl | (rw [hf];rfl),HB.out⟩
end
end Go.Proofs.YtnajjhgbombboaaGreatDoor
