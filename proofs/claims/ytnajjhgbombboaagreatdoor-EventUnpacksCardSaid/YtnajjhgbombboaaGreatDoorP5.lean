/-
  Texts behind the statement: part 5.
-/
import Derived.Test.YtnajjhgbombboaaGreatDoorP2
import Derived.Test.YtnajjhgbombboaaGreatDoorP4
import Derived.StillTailTactics
import Derived.Deep.RegionHeld3
set_option linter.unusedVariables false
set_option linter.unusedSimpArgs false
namespace Go.Proofs.YtnajjhgbombboaaGreatDoor
section
open Go.RowKit Go.Shelf Go.Lib
attribute [local go_sem] Oper.semAt_some
def vkV (a b:Nat):Value:=.agg #[.func (.func a) #[] #[],.func (.func b) #[] #[]]
def vkE (a b:Nat) (k:Int) (j:Nat):MapEntry:={ key:=.int .i64 k,val:=vkV a b,born:=j }
def vkMap:Array MapEntry:=#[vkE 141 142 0 0,vkE 143 144 1 1,vkE 146 147 2 2,vkE 149 150 3 3,vkE 152 153 4 4]
theorem vkinds_at (w:World):Calls Tryz.prog 124 #[] w fun e w'=>e = .returned (.map (some w.heap.size))∧w.alloc (.map vkMap 5)=w':=by
 have hmm:=@run_makeMap Tryz.prog
 have u1:=run_mapUpdate_fresh (P:=Tryz.prog) (T:=175) (K:=61) (E:=173) (k:=.i64) Tryz.underlying175 Tryz.underlying61 (es:=#[]) (a:=0) rfl 0 (vkV 141 142) w
 have u2:=run_mapUpdate_fresh (P:=Tryz.prog) (T:=175) (K:=61) (E:=173) (k:=.i64) Tryz.underlying175 Tryz.underlying61 (es:=#[vkE 141 142 0 0]) (a:=1) rfl 1 (vkV 143 144) w
 have u3:=run_mapUpdate_fresh (P:=Tryz.prog) (T:=175) (K:=61) (E:=173) (k:=.i64) Tryz.underlying175 Tryz.underlying61 (es:=#[vkE 141 142 0 0,vkE 143 144 1 1]) (a:=2) rfl 2 (vkV 146 147) w
 have u4:=run_mapUpdate_fresh (P:=Tryz.prog) (T:=175) (K:=61) (E:=173) (k:=.i64) Tryz.underlying175 Tryz.underlying61 (es:=#[vkE 141 142 0 0,vkE 143 144 1 1,vkE 146 147 2 2]) (a:=3) rfl 3 (vkV 149 150) w
 have u5:=run_mapUpdate_fresh (P:=Tryz.prog) (T:=175) (K:=61) (E:=173) (k:=.i64) Tryz.underlying175 Tryz.underlying61 (es:=#[vkE 141 142 0 0,vkE 143 144 1 1,vkE 146 147 2 2,vkE 149 150 3 3]) (a:=4) rfl 4 (vkV 152 153) w
 simp only [List.push_toArray,List.nil_append,List.cons_append,Nat.reduceAdd] at u1 u2 u3 u4 u5
 simp only [vkE,vkV] at u1 u2 u3 u4 u5
 go_enter Tryz.func124,Tryz.ntmps124
 go_wp2
 go_ret
 exact ⟨rfl,rfl⟩
theorem vkinds_any (w:World):Calls Tryz.prog 124 #[] w fun e w'=>∃ b,e = .returned (.map (some b))∧w'.heap[b]? = some (.map vkMap 5)∧Bel w w' :=
 (vkinds_at w).mono fun e w' ⟨he,hw⟩=>⟨_,he,by rw [← hw];exact World.alloc_heap_new _ _,by rw [← hw];exact (Bel.refl w).alloc _⟩
def vkOf:Int→Value
 | 0=>vkV 141 142
 | 1=>vkV 143 144
 | 2=>vkV 146 147
 | 3=>vkV 149 150
 | _=>vkV 152 153
theorem vkLook {t:Int} (h1 : 0≤t) (h4:t≤4) {b:Nat} {V:World} (hb:V.heap[b]? = some (.map vkMap 5)) :
 (Instr.lookup 175 (.map (some b)) (.int .i64 t) true).run Tryz.prog V = .ok (.tuple #[vkOf t,.bool true]) V:=by
 have hc:t=0 ∨ t=1 ∨ t=2 ∨ t=3 ∨ t=4:=by omega
 rcases hc with rfl | rfl | rfl | rfl | rfl
 ·exact run_lookup_int_ok (k:=.i64) Tryz.underlying175 Tryz.underlying61 (i:=0) rfl hb
 ·exact run_lookup_int_ok (k:=.i64) Tryz.underlying175 Tryz.underlying61 (i:=1) rfl hb
 ·exact run_lookup_int_ok (k:=.i64) Tryz.underlying175 Tryz.underlying61 (i:=2) rfl hb
 ·exact run_lookup_int_ok (k:=.i64) Tryz.underlying175 Tryz.underlying61 (i:=3) rfl hb
 ·exact run_lookup_int_ok (k:=.i64) Tryz.underlying175 Tryz.underlying61 (i:=4) rfl hb
theorem vkLookNo {t:Int} (h : ¬ (0≤t∧t≤4)) {b:Nat} {V:World} (hb:V.heap[b]? = some (.map vkMap 5)) :
 (Instr.lookup 175 (.map (some b)) (.int .i64 t) true).run Tryz.prog V = .ok (.tuple #[.agg #[.nilFunc,.nilFunc],.bool false]) V:=by
 refine run_lookup_int_none (k:=.i64) Tryz.underlying175 Tryz.underlying61 ?_ ?_ hb
 ·have h0:(t == 0)=false:=by rw [beq_eq_false_iff_ne];omega
  have h1:(t == 1)=false:=by rw [beq_eq_false_iff_ne];omega
  have h2:(t == 2)=false:=by rw [beq_eq_false_iff_ne];omega
  have h3:(t == 3)=false:=by rw [beq_eq_false_iff_ne];omega
  have h4:(t == 4)=false:=by rw [beq_eq_false_iff_ne];omega
  simp [vkMap,vkE,Instr.findNow,Instr.sameNow,h0,h1,h2,h3,h4]
 ·kernel_rfl
def Val.bare (x:Val):Val:=⟨x.k,if x.k=1 ∨ x.k=3 then x.n else 0,if x.k=2 then x.u else 0,if x.k=4 then x.b else ⟨#[]⟩⟩
theorem vbare_any (x:Val) (w:World):Calls Tryz.prog 125 #[x.v] w fun e w'=>e = .returned x.bare.v∧Bel w w':=by
 obtain ⟨k,n,u,b⟩:=x
 by_cases hk : 0≤k∧k≤4
 ·have hc:k=0 ∨ k=1 ∨ k=2 ∨ k=3 ∨ k=4:=by omega
  clear hk
  rcases hc with rfl | rfl | rfl | rfl | rfl
  all_goals
   show Calls Tryz.prog 125 #[.agg #[.int .i64 _,.int .i64 n,.int .u64 u,.string b]] w _
   go_enter Tryz.func125,Tryz.ntmps125
   go_wp2
   refine bodyPost_ret (v:=_) (by simp [results,Tryz.results125,go_sem];rfl) rfl ⟨by simp [Val.bare,Val.v],by (repeat (first | exact Below.refl _ _ | assumption | exact Bel.refl _ | refine Bel.alloc ?_ _ | refine Bel.drew ?_ | refine Bel.drewN ?_ _ | refine Bel.then_ ?_ (by assumption) | refine Bel.setCell ?_ (by first | (simp;done) | (simp;omega)) _))⟩
 ·have h1:(k == 1)=false:=by rw [beq_eq_false_iff_ne];omega
  have h2:(k == 2)=false:=by rw [beq_eq_false_iff_ne];omega
  have h3:(k == 3)=false:=by rw [beq_eq_false_iff_ne];omega
  have h4:(k == 4)=false:=by rw [beq_eq_false_iff_ne];omega
  have hb:(Val.bare ⟨k,n,u,b⟩)=⟨k,0,0,⟨#[]⟩⟩:=by
   unfold Val.bare
   dsimp only
   rw [if_neg (by omega),if_neg (by omega),if_neg (by omega)]
  rw [hb]
  clear hb hk
  show Calls Tryz.prog 125 #[.agg #[.int .i64 _,.int .i64 n,.int .u64 u,.string b]] w _
  go_enter Tryz.func125,Tryz.ntmps125
  go_wp2
  refine bodyPost_ret (v:=_) (by simp [results,Tryz.results125,go_sem];rfl) rfl ⟨rfl,by (repeat (first | exact Below.refl _ _ | assumption | exact Bel.refl _ | refine Bel.alloc ?_ _ | refine Bel.drew ?_ | refine Bel.drewN ?_ _ | refine Bel.then_ ?_ (by assumption) | refine Bel.setCell ?_ (by first | (simp;done) | (simp;omega)) _))⟩
theorem bytes_eq_iff {d d':ByteArray} : d.toList=d'.toList ↔ d=d':=⟨fun h=>WideShapes.bytes_inj (by rwa [ByteArray.toList_eq,ByteArray.toList_eq] at h),fun h=>by rw [h]⟩
theorem val_ne (x y:Val) (w:World):(binOp .neq 64 x.v y.v).run Tryz.prog w = .ok (.bool (decide (x ≠ y))) w:=by
 obtain ⟨a,b,c,d⟩:=x
 obtain ⟨a',b',c',d'⟩:=y
 unfold Val.v
 dsimp only
 go_simp
 simp only [bytes_eq_iff]
 by_cases h1:a=a' <;> by_cases h2:b=b' <;> by_cases h3:c=c' <;> by_cases h4:d=d' <;> simp [h1,h2,h3,h4]
theorem vmay_any (f:Nat) (hf:f=141 ∨ f=143 ∨ f=146 ∨ f=152) (x:Val) (w:World):Calls Tryz.prog f #[x.v] w fun e w'=>e = .returned (.bool true)∧Bel w w':=by
 obtain ⟨k,n,u,b⟩:=x
 unfold Val.v
 dsimp only
 rcases hf with rfl | rfl | rfl | rfl
 ·go_enter Tryz.func141,Tryz.ntmps141
  go_wp2
  go_ret
  exact ⟨rfl,by (repeat (first | exact Below.refl _ _ | assumption | exact Bel.refl _ | refine Bel.alloc ?_ _ | refine Bel.drew ?_ | refine Bel.drewN ?_ _ | refine Bel.then_ ?_ (by assumption) | refine Bel.setCell ?_ (by first | (simp;done) | (simp;omega)) _))⟩
 ·go_enter Tryz.func143,Tryz.ntmps143
  go_wp2
  go_ret
  exact ⟨rfl,by (repeat (first | exact Below.refl _ _ | assumption | exact Bel.refl _ | refine Bel.alloc ?_ _ | refine Bel.drew ?_ | refine Bel.drewN ?_ _ | refine Bel.then_ ?_ (by assumption) | refine Bel.setCell ?_ (by first | (simp;done) | (simp;omega)) _))⟩
 ·go_enter Tryz.func146,Tryz.ntmps146
  go_wp2
  go_ret
  exact ⟨rfl,by (repeat (first | exact Below.refl _ _ | assumption | exact Bel.refl _ | refine Bel.alloc ?_ _ | refine Bel.drew ?_ | refine Bel.drewN ?_ _ | refine Bel.then_ ?_ (by assumption) | refine Bel.setCell ?_ (by first | (simp;done) | (simp;omega)) _))⟩
 ·go_enter Tryz.func152,Tryz.ntmps152
  go_wp2
  go_ret
  exact ⟨rfl,by (repeat (first | exact Below.refl _ _ | assumption | exact Bel.refl _ | refine Bel.alloc ?_ _ | refine Bel.drew ?_ | refine Bel.drewN ?_ _ | refine Bel.then_ ?_ (by assumption) | refine Bel.setCell ?_ (by first | (simp;done) | (simp;omega)) _))⟩
theorem vmayBool_any (x:Val) (w:World):Calls Tryz.prog 149 #[x.v] w fun e w'=>e = .returned (.bool (decide (x.n=0 ∨ x.n=1)))∧Bel w w':=by
 obtain ⟨k,n,u,b⟩:=x
 unfold Val.v
 dsimp only
 by_cases h:n=0
 ·subst h
  go_enter Tryz.func149,Tryz.ntmps149
  go_wp2
  go_ret
  exact ⟨rfl,by (repeat (first | exact Below.refl _ _ | assumption | exact Bel.refl _ | refine Bel.alloc ?_ _ | refine Bel.drew ?_ | refine Bel.drewN ?_ _ | refine Bel.then_ ?_ (by assumption) | refine Bel.setCell ?_ (by first | (simp;done) | (simp;omega)) _))⟩
 ·by_cases h2:n=1
  ·subst h2
   go_enter Tryz.func149,Tryz.ntmps149
   go_wp2
   go_ret
   exact ⟨rfl,by (repeat (first | exact Below.refl _ _ | assumption | exact Bel.refl _ | refine Bel.alloc ?_ _ | refine Bel.drew ?_ | refine Bel.drewN ?_ _ | refine Bel.then_ ?_ (by assumption) | refine Bel.setCell ?_ (by first | (simp;done) | (simp;omega)) _))⟩
  ·have h1:(n == 0)=false:=by rw [beq_eq_false_iff_ne];exact h
   have h3:(n == 1)=false:=by rw [beq_eq_false_iff_ne];exact h2
   rw [decide_eq_false (by omega)]
   go_enter Tryz.func149,Tryz.ntmps149
   go_wp2
   go_ret
   exact ⟨by first | rfl | simp [h1,h3],by (repeat (first | exact Below.refl _ _ | assumption | exact Bel.refl _ | refine Bel.alloc ?_ _ | refine Bel.drew ?_ | refine Bel.drewN ?_ _ | refine Bel.then_ ?_ (by assumption) | refine Bel.setCell ?_ (by first | (simp;done) | (simp;omega)) _))⟩
def mayB (x:Val):Bool:=decide (x.k=3→x.n=0 ∨ x.n=1)
theorem vkOf_is {t:Int} (h1 : 0≤t) (h4:t≤4) : ∃ f g,vkOf t=vkV f g∧(∀ args w,(callFunc f args).run Tryz.prog w = .ok (.enter f args) w) ∧
 ∀ x:Val,x.k=t → ∀ w,Calls Tryz.prog f #[x.v] w fun e w'=>e = .returned (.bool (mayB x))∧Bel w w':=by
 have hc:t=0 ∨ t=1 ∨ t=2 ∨ t=3 ∨ t=4:=by omega
 have hm : ∀ x:Val,x.k ≠ 3→mayB x=true:=fun x h=>decide_eq_true (fun e=>absurd e h)
 rcases hc with rfl | rfl | rfl | rfl | rfl
 ·exact ⟨_,_,rfl,enters_of Tryz.func141 (by kernel_rfl) rfl,fun x hx w=>by rw [hm x (by omega)];exact vmay_any _ (by decide) x w⟩
 ·exact ⟨_,_,rfl,enters_of Tryz.func143 (by kernel_rfl) rfl,fun x hx w=>by rw [hm x (by omega)];exact vmay_any _ (by decide) x w⟩
 ·exact ⟨_,_,rfl,enters_of Tryz.func146 (by kernel_rfl) rfl,fun x hx w=>by rw [hm x (by omega)];exact vmay_any _ (by decide) x w⟩
 ·exact ⟨_,_,rfl,enters_of Tryz.func149 (by kernel_rfl) rfl,fun x hx w=>by
   have:mayB x=decide (x.n=0 ∨ x.n=1):=by unfold mayB;simp [hx]
   rw [this]
   exact vmayBool_any x w⟩
 ·exact ⟨_,_,rfl,enters_of Tryz.func152 (by kernel_rfl) rfl,fun x hx w=>by rw [hm x (by omega)];exact vmay_any _ (by decide) x w⟩
def checkI (x:Val):Int:=if x.k<0 ∨ 4<x.k ∨ x ≠ x.bare ∨ mayB x=false then 2 else if 200<x.b.size then 3 else 0
set_option maxRecDepth 100000 in
set_option maxHeartbeats 4000000 in
theorem vCheck_any (x:Val) (w:World):Calls Tryz.prog 94 #[x.v] w fun e w'=>e = .returned (.int .i64 (checkI x))∧Bel w w':=by
 obtain ⟨k,n,u,b⟩:=x
 obtain ⟨R,hR⟩ : ∃ R,R=checkI ⟨k,n,u,b⟩:=⟨_,rfl⟩
 rw [← hR]
 have HR:=Lib.hid hR
 clear hR
 unfold Val.v
 dsimp only
 by_cases ht : 0≤k∧k≤4
 ·obtain ⟨f,g,hk,egf,hsz⟩:=vkOf_is ht.1 ht.2
  have HSZ:=Lib.hid (fun V=>hsz ⟨k,n,u,b⟩ rfl V)
  clear hsz
  have HLO:=Lib.hid (fun (b:Nat) (V:World) (hb:V.heap[b]? = some (.map vkMap 5))=>vkLook ht.1 ht.2 hb)
  rw [hk] at HLO
  unfold vkV at HLO
  have HK:=Lib.hid hk
  have HT:=Lib.hid ht
  clear hk ht
  go_enter Tryz.func94,Tryz.ntmps94
  go_wp2
  obtain ⟨w1,hw1⟩ : ∃ w1,w1=w.alloc (.cells #[.int .i64 k,.int .i64 n,.int .u64 u,.string b] 64):=⟨_,rfl⟩
  rw [← hw1]
  have hb1:Bel w w1:=by rw [hw1];exact (Bel.refl w).alloc _
  have hc0:w1.cell? ⟨w.heap.size,0,none⟩=some (.int .i64 k):=by rw [hw1];go_simp
  have hc1:w1.cell? ⟨w.heap.size,1,none⟩=some (.int .i64 n):=by rw [hw1];go_simp
  have hc2:w1.cell? ⟨w.heap.size,2,none⟩=some (.int .u64 u):=by rw [hw1];go_simp
  have hc3:w1.cell? ⟨w.heap.size,3,none⟩=some (.string b):=by rw [hw1];go_simp
  clear hw1
  have hS : ∀ V,Bel w1 V→(Bel w1 V∧V.cell? ⟨w.heap.size,0,none⟩=some (.int .i64 k)):=fun V h=>⟨h,h.c hc0⟩
  apply wp_cut2 (R:=fun bm bx V=>Bel w1 V∧V.cell? ⟨bx,0,none⟩=some (.func (.func f) #[] #[]))
  case h =>
   refine wp_region_noPanic ?_
   refine wp_region_held_drew (S:=(fun V:World=>Bel w1 V∧V.cell? ⟨w.heap.size,0,none⟩=some (.int .i64 k))) (by kernel_rfl) ?_ (fun hHr1_0=>?_)
   ·(try dsimp only);(first | assumption | exact hS _ (Bel.refl w1).drew | exact hS _ hB2 | exact hS _ (Bel.alloc hB2 _) | exact hS _ (Bel.alloc (Bel.refl w1).drew _) | exact hS _ (Bel.setCell (Bel.setCell hB2 (Nat.le_refl _) _) (Nat.le_refl _) _))
   refine tk 1 ?_
   refine tk 2 ?_
   refine wpAnyH_ready (rs:=[0,7]) (by kernel_rfl) (by simp) ?_
   refine AllReadyH.cons (o:=_) rfl (fun K hK=>?_) (AllReadyH.cons (o:=_) rfl (fun K hK=>?_) (AllReadyH.nil))
   ·go_simp
    (go_at_call 124;refine (vkinds_any _).mono ?_;rintro e w2 ⟨bm,rfl,hm,hb2⟩;have hB2:Bel w1 w2:=Bel.then_ (Bel.refl w1).drew hb2)
    try (go_wp2_with fail)
    refine hK.out _ _ ?_ (fun hHr1_1=>?_)
    ·(try dsimp only);(first | assumption | exact hS _ (Bel.refl w1).drew | exact hS _ hB2 | exact hS _ (Bel.alloc hB2 _) | exact hS _ (Bel.alloc (Bel.refl w1).drew _) | exact hS _ (Bel.setCell (Bel.setCell hB2 (Nat.le_refl _) _) (Nat.le_refl _) _))
    clear hK K hHr1_0
    try simp only [tkp0,tkp1,tkp2,tkp3,tkp4,tkp5,tkp6,tkp7]
    refine wpAnyH_ready (rs:=[3,7]) (by kernel_rfl) (by simp) ?_
    refine AllReadyH.cons (o:=_) rfl (fun K hK=>?_) (AllReadyH.cons (o:=_) rfl (fun K hK=>?_) (AllReadyH.nil))
    ·go_simp
     ((have hlk:=HLO.out bm _ hm);go_simp)
     refine hK.out _ _ ?_ (fun hHr1_2=>?_)
     ·(try dsimp only);(first | assumption | exact hS _ (Bel.refl w1).drew | exact hS _ hB2 | exact hS _ (Bel.alloc hB2 _) | exact hS _ (Bel.alloc (Bel.refl w1).drew _) | exact hS _ (Bel.setCell (Bel.setCell hB2 (Nat.le_refl _) _) (Nat.le_refl _) _))
     clear hK K hHr1_1
     try simp only [tkp0,tkp1,tkp2,tkp3,tkp4,tkp5,tkp6,tkp7]
     refine tk 4 ?_
     refine tk 5 ?_
     refine tk 6 ?_
     refine rd1 7 (fun K hK=>?_)
     go_simp
     refine hK.out _ _ ?_ (fun hHr1_3=>?_)
     ·(try dsimp only);(first | assumption | exact hS _ (Bel.refl w1).drew | exact hS _ hB2 | exact hS _ (Bel.alloc hB2 _) | exact hS _ (Bel.alloc (Bel.refl w1).drew _) | exact hS _ (Bel.setCell (Bel.setCell hB2 (Nat.le_refl _) _) (Nat.le_refl _) _))
     clear hK K hHr1_2
     try simp only [tkp0,tkp1,tkp2,tkp3,tkp4,tkp5,tkp6,tkp7]
     refine rd1 8 (fun K hK=>?_)
     go_simp
     refine hK.out _ _ ?_ (fun hHr1_4=>?_)
     ·(try dsimp only);(first | assumption | exact hS _ (Bel.refl w1).drew | exact hS _ hB2 | exact hS _ (Bel.alloc hB2 _) | exact hS _ (Bel.alloc (Bel.refl w1).drew _) | exact hS _ (Bel.setCell (Bel.setCell hB2 (Nat.le_refl _) _) (Nat.le_refl _) _))
     clear hK K hHr1_3
     try simp only [tkp0,tkp1,tkp2,tkp3,tkp4,tkp5,tkp6,tkp7]
     refine tk 9 ?_
     refine wpAnyH_done (by kernel_rfl) ?_ _
     refine NoPanic.normal ?_
     (refine ⟨bm,w2.heap.size,rfl,?_,hHr1_4.1,by go_simp⟩;generalize w2.heap.size=bx;exact rfl)
    ·go_simp
     refine hK.out _ _ ?_ (fun hHr1_2=>?_)
     ·(try dsimp only);(first | assumption | exact hS _ (Bel.refl w1).drew | exact hS _ hB2 | exact hS _ (Bel.alloc hB2 _) | exact hS _ (Bel.alloc (Bel.refl w1).drew _) | exact hS _ (Bel.setCell (Bel.setCell hB2 (Nat.le_refl _) _) (Nat.le_refl _) _))
     clear hK K hHr1_1
     try simp only [tkp0,tkp1,tkp2,tkp3,tkp4,tkp5,tkp6,tkp7]
     refine rd1 3 (fun K hK=>?_)
     go_simp
     ((have hlk:=HLO.out bm _ (((Bel.refl w2).alloc (.cells #[.nilFunc,.nilFunc] 173)).deferred hm));go_simp)
     refine hK.out _ _ ?_ (fun hHr1_3=>?_)
     ·(try dsimp only);(first | assumption | exact hS _ (Bel.refl w1).drew | exact hS _ hB2 | exact hS _ (Bel.alloc hB2 _) | exact hS _ (Bel.alloc (Bel.refl w1).drew _) | exact hS _ (Bel.setCell (Bel.setCell hB2 (Nat.le_refl _) _) (Nat.le_refl _) _))
     clear hK K hHr1_2
     try simp only [tkp0,tkp1,tkp2,tkp3,tkp4,tkp5,tkp6,tkp7]
     refine tk 4 ?_
     refine tk 5 ?_
     refine tk 6 ?_
     refine rd1 8 (fun K hK=>?_)
     go_simp
     refine hK.out _ _ ?_ (fun hHr1_4=>?_)
     ·(try dsimp only);(first | assumption | exact hS _ (Bel.refl w1).drew | exact hS _ hB2 | exact hS _ (Bel.alloc hB2 _) | exact hS _ (Bel.alloc (Bel.refl w1).drew _) | exact hS _ (Bel.setCell (Bel.setCell hB2 (Nat.le_refl _) _) (Nat.le_refl _) _))
     clear hK K hHr1_3
     try simp only [tkp0,tkp1,tkp2,tkp3,tkp4,tkp5,tkp6,tkp7]
     refine tk 9 ?_
     refine wpAnyH_done (by kernel_rfl) ?_ _
     refine NoPanic.normal ?_
     (refine ⟨bm,w2.heap.size,rfl,?_,hHr1_4.1,by go_simp⟩;generalize w2.heap.size=bx;exact rfl)
   ·go_simp
    refine hK.out _ _ ?_ (fun hHr1_1=>?_)
    ·(try dsimp only);(first | assumption | exact hS _ (Bel.refl w1).drew | exact hS _ hB2 | exact hS _ (Bel.alloc hB2 _) | exact hS _ (Bel.alloc (Bel.refl w1).drew _) | exact hS _ (Bel.setCell (Bel.setCell hB2 (Nat.le_refl _) _) (Nat.le_refl _) _))
    clear hK K hHr1_0
    try simp only [tkp0,tkp1,tkp2,tkp3,tkp4,tkp5,tkp6,tkp7]
    refine rd1 0 (fun K hK=>?_)
    go_simp
    (go_at_call 124;refine (vkinds_any _).mono ?_;rintro e w2 ⟨bm,rfl,hm,hb2⟩;have hB2:Bel w1 w2:=Bel.then_ (Bel.alloc (Bel.refl w1).drew _) hb2;have z0:w2.cell? ⟨w1.heap.size,0,none⟩=some .nilFunc:=hb2.c (by go_simp);have z1:w2.cell? ⟨w1.heap.size,1,none⟩=some .nilFunc:=hb2.c (by go_simp);have y0:w2.frozen? ⟨w1.heap.size,0,none⟩=false:=(Below.frozen hb2 (by simp)).trans (by go_simp);have y1:w2.frozen? ⟨w1.heap.size,1,none⟩=false:=(Below.frozen hb2 (by simp)).trans (by go_simp))
    try (go_wp2_with fail)
    refine hK.out _ _ ?_ (fun hHr1_2=>?_)
    ·(try dsimp only);(first | assumption | exact hS _ (Bel.refl w1).drew | exact hS _ hB2 | exact hS _ (Bel.alloc hB2 _) | exact hS _ (Bel.alloc (Bel.refl w1).drew _) | exact hS _ (Bel.setCell (Bel.setCell hB2 (Nat.le_refl _) _) (Nat.le_refl _) _))
    clear hK K hHr1_1
    try simp only [tkp0,tkp1,tkp2,tkp3,tkp4,tkp5,tkp6,tkp7]
    refine rd1 3 (fun K hK=>?_)
    go_simp
    ((have hlk:=HLO.out bm _ hm);go_simp)
    refine hK.out _ _ ?_ (fun hHr1_3=>?_)
    ·(try dsimp only);(first | assumption | exact hS _ (Bel.refl w1).drew | exact hS _ hB2 | exact hS _ (Bel.alloc hB2 _) | exact hS _ (Bel.alloc (Bel.refl w1).drew _) | exact hS _ (Bel.setCell (Bel.setCell hB2 (Nat.le_refl _) _) (Nat.le_refl _) _))
    clear hK K hHr1_2
    try simp only [tkp0,tkp1,tkp2,tkp3,tkp4,tkp5,tkp6,tkp7]
    refine tk 4 ?_
    refine tk 5 ?_
    refine tk 6 ?_
    refine rd1 8 (fun K hK=>?_)
    go_simp
    refine hK.out _ _ ?_ (fun hHr1_4=>?_)
    ·(try dsimp only);(first | assumption | exact hS _ (Bel.refl w1).drew | exact hS _ hB2 | exact hS _ (Bel.alloc hB2 _) | exact hS _ (Bel.alloc (Bel.refl w1).drew _) | exact hS _ (Bel.setCell (Bel.setCell hB2 (Nat.le_refl _) _) (Nat.le_refl _) _))
    clear hK K hHr1_3
    try simp only [tkp0,tkp1,tkp2,tkp3,tkp4,tkp5,tkp6,tkp7]
    refine tk 9 ?_
    refine wpAnyH_done (by kernel_rfl) ?_ _
    refine NoPanic.normal ?_
    (refine ⟨bm,w1.heap.size,rfl,?_,hHr1_4.1,by go_simp⟩;generalize w1.heap.size=bx;exact rfl)
  case k =>
   rintro bm bx V ⟨hb,hk0⟩
   have HB:=Lib.hid (hb1.then_ hb)
   have hd0:=hb.c hc0
   have hd1:=hb.c hc1
   have hd2:=hb.c hc2
   have hd3:=hb.c hc3
   clear hS hb1 hb hc0 hc1 hc2 hc3
   go_wp2
   have hS : ∀ V',Bel V V'→(Bel V V'∧V'.cell? ⟨w.heap.size,0,none⟩=some (.int .i64 k)∧V'.cell? ⟨w.heap.size,1,none⟩=some (.int .i64 n)∧V'.cell? ⟨w.heap.size,2,none⟩=some (.int .u64 u)∧V'.cell? ⟨w.heap.size,3,none⟩=some (.string b)∧V'.cell? ⟨bx,0,none⟩=some (.func (.func f) #[] #[])):=fun V' h=>⟨h,h.c hd0,h.c hd1,h.c hd2,h.c hd3,h.c hk0⟩
   obtain ⟨nb,hnb⟩ : ∃ nb,nb=decide ((⟨k,n,u,b⟩:Val) ≠ Val.bare ⟨k,n,u,b⟩):=⟨_,rfl⟩
   have hne : ∀ W,(binOp .neq 64 (.agg #[.int .i64 k,.int .i64 n,.int .u64 u,.string b]) (Val.bare ⟨k,n,u,b⟩).v).run Tryz.prog W = .ok (.bool nb) W:=fun W=>by rw [hnb];exact val_ne ⟨k,n,u,b⟩ _ W
   have HNB:=Lib.hid hnb
   have HVB:=Lib.hid (fun W=>vbare_any ⟨k,n,u,b⟩ W)
   clear hnb hd0 hd1 hd2 hd3 hk0
   obtain ⟨ys,hys⟩ : ∃ ys,(Val.bare ⟨k,n,u,b⟩).v = .agg ys:=⟨_,rfl⟩
   rw [hys] at hne HVB
   clear hys
   obtain ⟨mb,hmb⟩ : ∃ mb,mb=mayB ⟨k,n,u,b⟩:=⟨_,rfl⟩
   rw [← hmb] at HSZ
   have HMB:=Lib.hid hmb
   clear hmb
   cases nb
   ·refine wp_region_noPanic ?_
    refine wp_region_held_drew (S:=(fun V':World=>Bel V V'∧V'.cell? ⟨w.heap.size,0,none⟩=some (.int .i64 k)∧V'.cell? ⟨w.heap.size,1,none⟩=some (.int .i64 n)∧V'.cell? ⟨w.heap.size,2,none⟩=some (.int .u64 u)∧V'.cell? ⟨w.heap.size,3,none⟩=some (.string b)∧V'.cell? ⟨bx,0,none⟩=some (.func (.func f) #[] #[]))) (by kernel_rfl) ?_ (fun hHr2_0=>?_)
    ·(try dsimp only);(first | assumption | exact hS _ (Bel.refl V).drew | exact hS _ hB4 | exact hS _ (hB4.then_ hb5))
    refine tk 0 ?_
    refine tk 1 ?_
    refine tk 2 ?_
    refine tk 3 ?_
    refine tk 4 ?_
    refine rd1 5 (fun K hK=>?_)
    go_simp
    (go_at_call 125;refine (HVB.out _).mono ?_;rintro e w4 ⟨rfl,hb4⟩;have hB4:Bel V w4:=Bel.then_ (Bel.refl V).drew hb4)
    try (go_wp2_with fail)
    refine hK.out _ _ ?_ (fun hHr2_1=>?_)
    ·(try dsimp only);(first | assumption | exact hS _ (Bel.refl V).drew | exact hS _ hB4 | exact hS _ (hB4.then_ hb5))
    clear hK K hHr2_0
    try simp only [tkp0,tkp1,tkp2,tkp3,tkp4,tkp5,tkp6,tkp7]
    refine tk 6 ?_
    refine tk 7 ?_
    refine tk 8 ?_
    refine tk 9 ?_
    refine tk 10 ?_
    refine tk 11 ?_
    refine rd1 12 (fun K hK=>?_)
    go_simp
    (go_at_fn f;refine (HSZ.out _).mono ?_;rintro e w5 ⟨rfl,hb5⟩)
    try (go_wp2_with fail)
    refine hK.out _ _ ?_ (fun hHr2_2=>?_)
    ·(try dsimp only);(first | assumption | exact hS _ (Bel.refl V).drew | exact hS _ hB4 | exact hS _ (hB4.then_ hb5))
    clear hK K hHr2_1
    try simp only [tkp0,tkp1,tkp2,tkp3,tkp4,tkp5,tkp6,tkp7]
    refine tk 13 ?_
    refine tk 14 ?_
    refine tk 15 ?_
    refine wpAnyH_done (by kernel_rfl) ?_ _
    refine NoPanic.normal ?_
    have hd3:=hHr2_2.2.2.2.2.1
    have HB5:=Lib.hid (HB.out.then_ hHr2_2.1)
    clear hHr2_2 hS hB4 hb4 hb5 hne
    cases mb
    ·go_wp2
     go_ret
     exact ⟨by rw [HR.out];unfold checkI;rw [← HMB.out];simp,HB5.out⟩
    ·have hR0:R=if 200<b.size then 3 else 0:=by
      rw [HR.out];unfold checkI;rw [← HMB.out]
      have h1:=of_decide_eq_false HNB.out.symm
      have h2:=HT.out
      rw [if_neg (by dsimp only;intro h;rcases h with h | h | h | h <;> first | omega | exact h1 h | cases h)]
     by_cases hl : 200<b.size
     ·rw [if_pos hl] at hR0
      have hlI:(200:Int)<b.size:=by omega
      go_wp2
      go_ret
      exact ⟨by rw [hR0];rfl,HB5.out⟩
     ·rw [if_neg hl] at hR0
      have hlI:decide ((200:Int)<b.size)=false:=by simp;omega
      go_wp2
      go_ret
      exact ⟨by rw [hR0];rfl,HB5.out⟩
   ·refine wp_region_noPanic ?_
    refine wp_region_held_drew (S:=(fun V':World=>Bel V V'∧V'.cell? ⟨w.heap.size,0,none⟩=some (.int .i64 k)∧V'.cell? ⟨w.heap.size,1,none⟩=some (.int .i64 n)∧V'.cell? ⟨w.heap.size,2,none⟩=some (.int .u64 u)∧V'.cell? ⟨w.heap.size,3,none⟩=some (.string b)∧V'.cell? ⟨bx,0,none⟩=some (.func (.func f) #[] #[]))) (by kernel_rfl) ?_ (fun hHr3_0=>?_)
    ·(try dsimp only);(first | assumption | exact hS _ (Bel.refl V).drew | exact hS _ hB4)
    refine tk 0 ?_
    refine tk 1 ?_
    refine tk 2 ?_
    refine tk 3 ?_
    refine tk 4 ?_
    refine rd1 5 (fun K hK=>?_)
    go_simp
    (go_at_call 125;refine (HVB.out _).mono ?_;rintro e w4 ⟨rfl,hb4⟩;have hB4:Bel V w4:=Bel.then_ (Bel.refl V).drew hb4)
    try (go_wp2_with fail)
    refine hK.out _ _ ?_ (fun hHr3_1=>?_)
    ·(try dsimp only);(first | assumption | exact hS _ (Bel.refl V).drew | exact hS _ hB4)
    clear hK K hHr3_0
    try simp only [tkp0,tkp1,tkp2,tkp3,tkp4,tkp5,tkp6,tkp7]
    refine tk 6 ?_
    refine tk 7 ?_
    refine tk 8 ?_
    refine tn 9 ?_
    refine tn 10 ?_
    refine tn 11 ?_
    refine tn 12 ?_
    refine tn 13 ?_
    refine tk 14 ?_
    refine tk 15 ?_
    refine wpAnyH_done (by kernel_rfl) ?_ _
    refine NoPanic.normal ?_
    have HB5:=Lib.hid (HB.out.then_ hHr3_1.1)
    clear hHr3_1 hS hB4 hb4 hne
    go_wp2
    go_ret
    exact ⟨by rw [HR.out];unfold checkI;rw [if_pos (.inr (.inr (.inl (of_decide_eq_true HNB.out.symm))))];rfl,HB5.out⟩
 ·have HLO:=Lib.hid (fun (b:Nat) (V:World) (hb:V.heap[b]? = some (.map vkMap 5))=>vkLookNo ht hb)
  have HRF:Hid (R=2):=by show R=2;rw [HR.out];unfold checkI;dsimp only;rw [if_pos (by omega)]
  clear ht
  go_enter Tryz.func94,Tryz.ntmps94
  go_wp2
  obtain ⟨w1,hw1⟩ : ∃ w1,w1=w.alloc (.cells #[.int .i64 k,.int .i64 n,.int .u64 u,.string b] 64):=⟨_,rfl⟩
  rw [← hw1]
  have hb1:Bel w w1:=by rw [hw1];exact (Bel.refl w).alloc _
  have hc0:w1.cell? ⟨w.heap.size,0,none⟩=some (.int .i64 k):=by rw [hw1];go_simp
  have hc1:w1.cell? ⟨w.heap.size,1,none⟩=some (.int .i64 n):=by rw [hw1];go_simp
  have hc2:w1.cell? ⟨w.heap.size,2,none⟩=some (.int .u64 u):=by rw [hw1];go_simp
  have hc3:w1.cell? ⟨w.heap.size,3,none⟩=some (.string b):=by rw [hw1];go_simp
  clear hw1
  have hS : ∀ V,Bel w1 V→(Bel w1 V∧V.cell? ⟨w.heap.size,0,none⟩=some (.int .i64 k)):=fun V h=>⟨h,h.c hc0⟩
  apply wp_cut2 (R:=fun bm bx V=>Bel w1 V∧True)
  case h =>
   refine wp_region_noPanic ?_
   refine wp_region_held_drew (S:=(fun V:World=>Bel w1 V∧V.cell? ⟨w.heap.size,0,none⟩=some (.int .i64 k))) (by kernel_rfl) ?_ (fun hHr4_0=>?_)
   ·(try dsimp only);(first | assumption | exact hS _ (Bel.refl w1).drew | exact hS _ hB2 | exact hS _ (Bel.alloc hB2 _) | exact hS _ (Bel.alloc (Bel.refl w1).drew _) | exact hS _ (Bel.setCell (Bel.setCell hB2 (Nat.le_refl _) _) (Nat.le_refl _) _))
   refine tk 1 ?_
   refine tk 2 ?_
   refine wpAnyH_ready (rs:=[0,7]) (by kernel_rfl) (by simp) ?_
   refine AllReadyH.cons (o:=_) rfl (fun K hK=>?_) (AllReadyH.cons (o:=_) rfl (fun K hK=>?_) (AllReadyH.nil))
   ·go_simp
    (go_at_call 124;refine (vkinds_any _).mono ?_;rintro e w2 ⟨bm,rfl,hm,hb2⟩;have hB2:Bel w1 w2:=Bel.then_ (Bel.refl w1).drew hb2)
    try (go_wp2_with fail)
    refine hK.out _ _ ?_ (fun hHr4_1=>?_)
    ·(try dsimp only);(first | assumption | exact hS _ (Bel.refl w1).drew | exact hS _ hB2 | exact hS _ (Bel.alloc hB2 _) | exact hS _ (Bel.alloc (Bel.refl w1).drew _) | exact hS _ (Bel.setCell (Bel.setCell hB2 (Nat.le_refl _) _) (Nat.le_refl _) _))
    clear hK K hHr4_0
    try simp only [tkp0,tkp1,tkp2,tkp3,tkp4,tkp5,tkp6,tkp7]
    refine wpAnyH_ready (rs:=[3,7]) (by kernel_rfl) (by simp) ?_
    refine AllReadyH.cons (o:=_) rfl (fun K hK=>?_) (AllReadyH.cons (o:=_) rfl (fun K hK=>?_) (AllReadyH.nil))
    ·go_simp
     ((have hlk:=HLO.out bm _ hm);go_simp)
     refine hK.out _ _ ?_ (fun hHr4_2=>?_)
     ·(try dsimp only);(first | assumption | exact hS _ (Bel.refl w1).drew | exact hS _ hB2 | exact hS _ (Bel.alloc hB2 _) | exact hS _ (Bel.alloc (Bel.refl w1).drew _) | exact hS _ (Bel.setCell (Bel.setCell hB2 (Nat.le_refl _) _) (Nat.le_refl _) _))
     clear hK K hHr4_1
     try simp only [tkp0,tkp1,tkp2,tkp3,tkp4,tkp5,tkp6,tkp7]
     refine tk 4 ?_
     refine tk 5 ?_
     refine tk 6 ?_
     refine rd1 7 (fun K hK=>?_)
     go_simp
     refine hK.out _ _ ?_ (fun hHr4_3=>?_)
     ·(try dsimp only);(first | assumption | exact hS _ (Bel.refl w1).drew | exact hS _ hB2 | exact hS _ (Bel.alloc hB2 _) | exact hS _ (Bel.alloc (Bel.refl w1).drew _) | exact hS _ (Bel.setCell (Bel.setCell hB2 (Nat.le_refl _) _) (Nat.le_refl _) _))
     clear hK K hHr4_2
     try simp only [tkp0,tkp1,tkp2,tkp3,tkp4,tkp5,tkp6,tkp7]
     refine rd1 8 (fun K hK=>?_)
     go_simp
     refine hK.out _ _ ?_ (fun hHr4_4=>?_)
     ·(try dsimp only);(first | assumption | exact hS _ (Bel.refl w1).drew | exact hS _ hB2 | exact hS _ (Bel.alloc hB2 _) | exact hS _ (Bel.alloc (Bel.refl w1).drew _) | exact hS _ (Bel.setCell (Bel.setCell hB2 (Nat.le_refl _) _) (Nat.le_refl _) _))
     clear hK K hHr4_3
     try simp only [tkp0,tkp1,tkp2,tkp3,tkp4,tkp5,tkp6,tkp7]
     refine tk 9 ?_
     refine wpAnyH_done (by kernel_rfl) ?_ _
     refine NoPanic.normal ?_
     (refine ⟨bm,w2.heap.size,rfl,?_,hHr4_4.1,trivial⟩;generalize w2.heap.size=bx;exact rfl)
    ·go_simp
     refine hK.out _ _ ?_ (fun hHr4_2=>?_)
     ·(try dsimp only);(first | assumption | exact hS _ (Bel.refl w1).drew | exact hS _ hB2 | exact hS _ (Bel.alloc hB2 _) | exact hS _ (Bel.alloc (Bel.refl w1).drew _) | exact hS _ (Bel.setCell (Bel.setCell hB2 (Nat.le_refl _) _) (Nat.le_refl _) _))
     clear hK K hHr4_1
     try simp only [tkp0,tkp1,tkp2,tkp3,tkp4,tkp5,tkp6,tkp7]
     refine rd1 3 (fun K hK=>?_)
     go_simp
     ((have hlk:=HLO.out bm _ (((Bel.refl w2).alloc (.cells #[.nilFunc,.nilFunc] 173)).deferred hm));go_simp)
     refine hK.out _ _ ?_ (fun hHr4_3=>?_)
     ·(try dsimp only);(first | assumption | exact hS _ (Bel.refl w1).drew | exact hS _ hB2 | exact hS _ (Bel.alloc hB2 _) | exact hS _ (Bel.alloc (Bel.refl w1).drew _) | exact hS _ (Bel.setCell (Bel.setCell hB2 (Nat.le_refl _) _) (Nat.le_refl _) _))
     clear hK K hHr4_2
     try simp only [tkp0,tkp1,tkp2,tkp3,tkp4,tkp5,tkp6,tkp7]
     refine tk 4 ?_
     refine tk 5 ?_
     refine tk 6 ?_
     refine rd1 8 (fun K hK=>?_)
     go_simp
     refine hK.out _ _ ?_ (fun hHr4_4=>?_)
     ·(try dsimp only);(first | assumption | exact hS _ (Bel.refl w1).drew | exact hS _ hB2 | exact hS _ (Bel.alloc hB2 _) | exact hS _ (Bel.alloc (Bel.refl w1).drew _) | exact hS _ (Bel.setCell (Bel.setCell hB2 (Nat.le_refl _) _) (Nat.le_refl _) _))
     clear hK K hHr4_3
     try simp only [tkp0,tkp1,tkp2,tkp3,tkp4,tkp5,tkp6,tkp7]
     refine tk 9 ?_
     refine wpAnyH_done (by kernel_rfl) ?_ _
     refine NoPanic.normal ?_
     (refine ⟨bm,w2.heap.size,rfl,?_,hHr4_4.1,trivial⟩;generalize w2.heap.size=bx;exact rfl)
   ·go_simp
    refine hK.out _ _ ?_ (fun hHr4_1=>?_)
    ·(try dsimp only);(first | assumption | exact hS _ (Bel.refl w1).drew | exact hS _ hB2 | exact hS _ (Bel.alloc hB2 _) | exact hS _ (Bel.alloc (Bel.refl w1).drew _) | exact hS _ (Bel.setCell (Bel.setCell hB2 (Nat.le_refl _) _) (Nat.le_refl _) _))
    clear hK K hHr4_0
    try simp only [tkp0,tkp1,tkp2,tkp3,tkp4,tkp5,tkp6,tkp7]
    refine rd1 0 (fun K hK=>?_)
    go_simp
    (go_at_call 124;refine (vkinds_any _).mono ?_;rintro e w2 ⟨bm,rfl,hm,hb2⟩;have hB2:Bel w1 w2:=Bel.then_ (Bel.alloc (Bel.refl w1).drew _) hb2;have z0:w2.cell? ⟨w1.heap.size,0,none⟩=some .nilFunc:=hb2.c (by go_simp);have z1:w2.cell? ⟨w1.heap.size,1,none⟩=some .nilFunc:=hb2.c (by go_simp);have y0:w2.frozen? ⟨w1.heap.size,0,none⟩=false:=(Below.frozen hb2 (by simp)).trans (by go_simp);have y1:w2.frozen? ⟨w1.heap.size,1,none⟩=false:=(Below.frozen hb2 (by simp)).trans (by go_simp))
    try (go_wp2_with fail)
    refine hK.out _ _ ?_ (fun hHr4_2=>?_)
    ·(try dsimp only);(first | assumption | exact hS _ (Bel.refl w1).drew | exact hS _ hB2 | exact hS _ (Bel.alloc hB2 _) | exact hS _ (Bel.alloc (Bel.refl w1).drew _) | exact hS _ (Bel.setCell (Bel.setCell hB2 (Nat.le_refl _) _) (Nat.le_refl _) _))
    clear hK K hHr4_1
    try simp only [tkp0,tkp1,tkp2,tkp3,tkp4,tkp5,tkp6,tkp7]
    refine rd1 3 (fun K hK=>?_)
    go_simp
    ((have hlk:=HLO.out bm _ hm);go_simp)
    refine hK.out _ _ ?_ (fun hHr4_3=>?_)
    ·(try dsimp only);(first | assumption | exact hS _ (Bel.refl w1).drew | exact hS _ hB2 | exact hS _ (Bel.alloc hB2 _) | exact hS _ (Bel.alloc (Bel.refl w1).drew _) | exact hS _ (Bel.setCell (Bel.setCell hB2 (Nat.le_refl _) _) (Nat.le_refl _) _))
    clear hK K hHr4_2
    try simp only [tkp0,tkp1,tkp2,tkp3,tkp4,tkp5,tkp6,tkp7]
    refine tk 4 ?_
    refine tk 5 ?_
    refine tk 6 ?_
    refine rd1 8 (fun K hK=>?_)
    go_simp
    refine hK.out _ _ ?_ (fun hHr4_4=>?_)
    ·(try dsimp only);(first | assumption | exact hS _ (Bel.refl w1).drew | exact hS _ hB2 | exact hS _ (Bel.alloc hB2 _) | exact hS _ (Bel.alloc (Bel.refl w1).drew _) | exact hS _ (Bel.setCell (Bel.setCell hB2 (Nat.le_refl _) _) (Nat.le_refl _) _))
    clear hK K hHr4_3
    try simp only [tkp0,tkp1,tkp2,tkp3,tkp4,tkp5,tkp6,tkp7]
    refine tk 9 ?_
    refine wpAnyH_done (by kernel_rfl) ?_ _
    refine NoPanic.normal ?_
    (refine ⟨bm,w1.heap.size,rfl,?_,hHr4_4.1,trivial⟩;generalize w1.heap.size=bx;exact rfl)
  case k =>
   rintro bm bx V ⟨hb,-⟩
   have HB:=Lib.hid (hb1.then_ hb)
   have hd0:=hb.c hc0
   clear hS hb1 hb hc0 hc1 hc2 hc3
   go_wp2
   have hS : ∀ V',Bel V V'→Bel V V':=fun V' h=>h
   refine wp_region_noPanic ?_
   refine wp_region_held_drew (S:=(fun V':World=>Bel V V')) (by kernel_rfl) ?_ (fun hHr5_0=>?_)
   ·(try dsimp only);(first | assumption | exact hS _ (Bel.refl V).drew)
   refine tk 0 ?_
   refine tk 1 ?_
   refine tk 2 ?_
   refine tn 3 ?_
   refine tn 4 ?_
   refine tn 5 ?_
   refine tn 6 ?_
   refine tk 7 ?_
   refine tk 8 ?_
   refine tn 9 ?_
   refine tn 10 ?_
   refine tn 11 ?_
   refine tn 12 ?_
   refine tn 13 ?_
   refine tk 14 ?_
   refine tk 15 ?_
   refine wpAnyH_done (by kernel_rfl) ?_ _
   refine NoPanic.normal ?_
   go_wp2
   go_ret
   exact ⟨by rw [HRF.out];rfl,HB.out.drew⟩
end
section
open Go.RowKit Go.Extern.Stop Go.Stop Go.Extern
def SFaultAt (w:World) (p:Nat) (k:Int):Prop:=∃ nm,w.heap[p]? = some (.cells #[.string nm,.iface 35 (.int .i64 k)] 242 (0,0))
theorem SFaultAt.bel {w w':World} {p:Nat} {k:Int} (h:SFaultAt w p k) (hb:Bel w w'):SFaultAt w' p k:=by obtain ⟨nm,h⟩:=h;exact ⟨nm,hb.deferred h⟩
theorem asTypeOfF (v:Value) (w:World):(ReflectliteType.typeOf #[.iface 240 v]).run Tryz.prog w = .ok (.iface 279 (.agg #[.pointer (some ⟨4,240,none⟩)])) w:=by kernel_rfl
theorem asAssignF (w:World):(ReflectliteType.relation "AssignableTo" ReflectliteType.assignableTo #[.agg #[.pointer (some ⟨4,240,none⟩)],.iface 279 (.agg #[.pointer (some ⟨4,35,none⟩)])]).run Tryz.prog w = .ok (.bool false) w:=by kernel_rfl
theorem asLacksAs (v:Value) (xT:TypeId) (w:World):(Instr.typeAssert (.iface 240 v) xT 284 true).run Tryz.prog w = .ok (.tuple #[.nilIface,.bool false]) w:=run_typeAssert_lacksB Tryz.underlying284 (by kernel_rfl) (by kernel_rfl) v xT w
theorem asHasUnwrap (v:Value) (xT:TypeId) (w:World):(Instr.typeAssert (.iface 240 v) xT 287 true).run Tryz.prog w = .ok (.tuple #[.iface 240 v,.bool true]) w:=run_typeAssert_hasB Tryz.underlying287 (by kernel_rfl) v xT w
theorem asMUnwrap (p:Addr) (w:World):(Go.method 424 240 (.pointer (some p)) "Unwrap").run Tryz.prog w = .ok (253,.pointer (some p)) w:=by kernel_rfl
set_option maxHeartbeats 1000000 in
theorem asIn_sfault (p:Nat) (k:Int) (t b:Addr) (x old:Value) (w:World) (hp:SFaultAt w p k) (hb:w.cell? b=some (.pointer (some t))) (ht:w.cell? t=some old) (hf:w.frozen? t=false) :
 Calls Tryz.prog 208 #[.iface 240 (.pointer (some ⟨p,0,none⟩)),x,.agg #[.pointer (some ⟨4,85,none⟩),.pointer (some b),.int .u64 150],.iface 279 (.agg #[.pointer (some ⟨4,35,none⟩)])] w (AsPost t k w):=by
 have hbl:b.block<w.heap.size:=World.block_lt_of_cell? (w:=w) (a:=b) hb
 have htl:t.block<w.heap.size:=World.block_lt_of_cell? (w:=w) (a:=t) ht
 obtain ⟨fl,hp⟩:=hp
 have hpl:=(Array.getElem?_eq_some_iff.1 hp).1
 have g1:=asTypeOfF
 have g2:=asAssignF
 have g3:=asLacksAs
 have g4:=asHasUnwrap
 have g5:=asMUnwrap
 have hwhy:(w.alloc (.cells #[.pointer (some ⟨4,85,none⟩),.pointer (some b),.int .u64 150] 259)).cell? ⟨p,1,none⟩=some (.iface 35 (.int .i64 k)):=by
  rw [World.cell?_alloc_lt _ _ ⟨p,1,none⟩ hpl];simp [World.cell?,hp]
 clear hp
 have h1:=@run_callFunc_extern Tryz.prog 225 _ ReflectliteType.typeOf Tryz.func225 (by kernel_rfl) (by kernel_rfl) (by kernel_rfl) (by kernel_rfl)
 have h2:=@run_callFunc_extern Tryz.prog 258 _ (ReflectliteType.relation "AssignableTo" ReflectliteType.assignableTo) Tryz.func258 (by kernel_rfl) (by kernel_rfl) (by kernel_rfl) (by kernel_rfl)
 have h3:=@run_callFunc_extern Tryz.prog 226 _ (ReflectliteValue.method (ReflectliteValue.valueError "reflectlite.Value.Elem" 0) ReflectliteValue.elem) Tryz.func226 (by kernel_rfl) (by kernel_rfl) (by kernel_rfl) (by kernel_rfl)
 have h4:=@run_callFunc_extern Tryz.prog 205 _ (fun args=>ReflectliteValue.unpack (args.getD 0 (.tuple #[]))) Tryz.func205 (by kernel_rfl) (by kernel_rfl) (by kernel_rfl) (by kernel_rfl)
 have h5:=@run_callFunc_extern Tryz.prog 227 _ ReflectliteValue.set Tryz.func227 (by kernel_rfl) (by kernel_rfl) (by kernel_rfl) (by kernel_rfl)
 have f1:=asTypeOf
 have f2:=asMAssign
 have f3:=asAssign
 have f4:=asValueOfE
 have el:=asElemV b t (w.alloc (.cells #[.pointer (some ⟨4,85,none⟩),.pointer (some b),.int .u64 150] 259)) (by rw [World.cell?_alloc_lt _ _ b hbl];exact hb)
 have st:=asSet t ⟨w.heap.size+1,0,none⟩ k old ((w.alloc (.cells #[.pointer (some ⟨4,85,none⟩),.pointer (some b),.int .u64 150] 259)).alloc (.cells #[.int .i64 k] 35))
  (by rw [World.cell?_alloc_at _ _ _ _ (by simp)];rfl)
  (by rw [World.cell?_alloc_lt _ _ t (by simp;omega),World.cell?_alloc_lt _ _ t htl];exact ht)
  (by rw [World.frozen?_alloc_old _ _ t (by simp;omega),World.frozen?_alloc_old _ _ t (Nat.ne_of_lt htl)];exact hf)
 have hfin:AsPost t k w (.returned (.bool true)) ((((w.alloc (.cells #[.pointer (some ⟨4,85,none⟩),.pointer (some b),.int .u64 150] 259)).alloc (.cells #[.int .i64 k] 35))).setCell t (.int .i64 k)):=by
  refine ⟨rfl,grown_trans (grown_alloc (grown_alloc (grown_refl _ _) _) _) (grown_setCell _ _ _),?_,?_⟩
  ·exact World.cell?_setCell_same _ _ _ (u:=old) (by rw [World.cell?_alloc_lt _ _ t (by simp;omega),World.cell?_alloc_lt _ _ t htl];exact ht)
  ·rw [World.frozen?_setCell,World.frozen?_alloc_old _ _ t (by simp;omega),World.frozen?_alloc_old _ _ t (Nat.ne_of_lt htl)];exact hf
 have HFIN:=Lib.hid hfin
 clear hfin
 go_enter Tryz.func208,Tryz.ntmps208
 go_wp2
 refine wp_loop_rounds 2 ?_
 rw [rounds_succ]
 go_wp2
 rw [rounds_succ]
 go_wp2
 go_ret
 exact HFIN.out
set_option maxHeartbeats 1000000 in
theorem scnumber_nil (w:World):Calls Tryz.prog 173 #[.nilIface] w fun e w'=>e = .returned (.int .i64 0)∧Bel w w':=by
 go_enter Tryz.func173,Tryz.ntmps173
 go_wp2
 refine bodyPost_ret (v:=.int .i64 0) (by simp [results,Tryz.results173,go_sem]) rfl ⟨rfl,?_⟩
 exact by (repeat (first | exact Below.refl _ _ | assumption | exact Bel.refl _ | refine Bel.alloc ?_ _ | refine Bel.drew ?_ | refine Bel.drewN ?_ _ | refine Bel.then_ ?_ (by assumption) | refine Bel.setCell ?_ (by first | (simp;done) | (simp;omega)) _))
theorem scnumber_fault (p:Nat) (k:Int) (w:World) (hg:ErrType w) (hp:SFaultAt w p k):Calls Tryz.prog 173 #[.iface 240 (.pointer (some ⟨p,0,none⟩))] w fun e w'=>e = .returned (.int .i64 k)∧Bel w w':=by
 have hba:Bel w (w.alloc (.cells #[.int .i64 0] 35)):=(Bel.refl w).alloc _
 have H:=Lib.hid (as_of 240 (.pointer (some ⟨p,0,none⟩)) k ⟨w.heap.size,0,none⟩ (.int .i64 0) (w.alloc (.cells #[.int .i64 0] 35)) (hg.bel hba) (by simp) (by simp)
  (fun W b hW h1 h2 h3=>asIn_sfault p k ⟨w.heap.size,0,none⟩ b _ _ W (hp.bel (hba.then_ hW)) h1 h2 h3))
 have HBA:=Lib.hid hba
 clear hg hp hba
 go_enter Tryz.func173,Tryz.ntmps173
 go_wp2_with fail
 refine H.out.mono ?_
 rintro e w1 ⟨rfl,hg1,hc1,hf1⟩
 have HG:Hid (Bel w w1):=Below.grown HBA.out hg1 (by simp) (fun j e=>by cases e;exact Nat.le_refl _)
 clear hg1
 go_wp2
 refine bodyPost_ret (v:=.int .i64 k) (by simp [results,Tryz.results173,go_sem,hc1,hf1]) rfl ⟨rfl,?_⟩
 exact HG.out.setCell (Nat.le_refl _) _
end
end Go.Proofs.YtnajjhgbombboaaGreatDoor
