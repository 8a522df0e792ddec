/-
  Texts behind the statement: part 4.
-/
import Derived.Test.YtnajjhgbombboaaGreatDoorP3
set_option linter.unusedVariables false
set_option linter.unusedSimpArgs false
namespace Go.Proofs.YtnajjhgbombboaaGreatDoor
section
open Go.RowKit Go.Shelf Go.Lib
attribute [local go_sem] Oper.semAt_some
structure Col where
 name:ByteArray
 t:Int
 z:Int
 null:Bool
deriving DecidableEq
structure Val where
 k:Int
 n:Int
 u:Int
 b:ByteArray
deriving DecidableEq
def Col.v (c:Col):Value:=.agg #[.string c.name,.int .i64 c.t,.int .i64 c.z,.bool c.null]
def Val.v (x:Val):Value:=.agg #[.int .i64 x.k,.int .i64 x.n,.int .u64 x.u,.string x.b]
def skV (a b:Nat) (k:Int):Value:=.agg #[.func (.func a) #[] #[],.int .i64 k,.func (.func b) #[] #[]]
def skE (a b:Nat) (k:Int) (j:Nat):MapEntry:={ key:=.int .i64 k,val:=skV a b k,born:=j }
def skMap:Array MapEntry:=#[skE 209 210 1 0,skE 209 211 2 1,skE 212 213 3 2,skE 214 215 4 3]
theorem sckinds_at (w:World):Calls Tryz.prog 192 #[] w fun e w'=>e = .returned (.map (some w.heap.size))∧w.alloc (.map skMap 4)=w':=by
 have hmm:=@run_makeMap Tryz.prog
 have u1:=run_mapUpdate_fresh (P:=Tryz.prog) (T:=245) (K:=65) (E:=244) (k:=.i64) Tryz.underlying245 Tryz.underlying65 (es:=#[]) (a:=1) rfl 0 (skV 209 210 1) w
 have u2:=run_mapUpdate_fresh (P:=Tryz.prog) (T:=245) (K:=65) (E:=244) (k:=.i64) Tryz.underlying245 Tryz.underlying65 (es:=#[skE 209 210 1 0]) (a:=2) rfl 1 (skV 209 211 2) w
 have u3:=run_mapUpdate_fresh (P:=Tryz.prog) (T:=245) (K:=65) (E:=244) (k:=.i64) Tryz.underlying245 Tryz.underlying65 (es:=#[skE 209 210 1 0,skE 209 211 2 1]) (a:=3) rfl 2 (skV 212 213 3) w
 have u4:=run_mapUpdate_fresh (P:=Tryz.prog) (T:=245) (K:=65) (E:=244) (k:=.i64) Tryz.underlying245 Tryz.underlying65 (es:=#[skE 209 210 1 0,skE 209 211 2 1,skE 212 213 3 2]) (a:=4) rfl 3 (skV 214 215 4) w
 simp only [List.push_toArray,List.nil_append,List.cons_append,Nat.reduceAdd] at u1 u2 u3 u4
 simp only [skE,skV] at u1 u2 u3 u4
 go_enter Tryz.func192,Tryz.ntmps192
 go_wp2
 go_ret
 exact ⟨rfl,rfl⟩
theorem sckinds_any (w:World):Calls Tryz.prog 192 #[] w fun e w'=>∃ b,e = .returned (.map (some b))∧w'.heap[b]? = some (.map skMap 4)∧Bel w w' :=
 (sckinds_at w).mono fun e w' ⟨he,hw⟩=>⟨_,he,by rw [← hw];exact World.alloc_heap_new _ _,by rw [← hw];exact (Bel.refl w).alloc _⟩
def sizeB (t z:Int):Bool:=if t=1 ∨ t=2 then decide (z=1 ∨ z=2 ∨ z=4 ∨ z=8) else if t=3 then decide (z=0) else decide (1≤z∧z≤200)
def rightB (c:Col):Bool:=decide (1≤c.t∧c.t≤4) && namedB c.name && sizeB c.t c.z
theorem wp_cut2 {P:Program} {c:Code} {Q:Exit→Act→World→Prop} {a:Act} {w:World} (F:Nat→Nat→Act) (R:Nat→Nat→World→Prop)
 (h:c.wp P (fun e a' V=>∃ x y,e = .normal∧a'=F x y∧R x y V) a w) (k : ∀ x y V,R x y V→Q .normal (F x y) V):c.wp P Q a w :=
 Code.wp_mono (fun e a' V h=>by obtain ⟨x,y,rfl,rfl,hr⟩:=h;exact k _ _ _ hr) h
def skOf:Int→Value
 | 1=>skV 209 210 1
 | 2=>skV 209 211 2
 | 3=>skV 212 213 3
 | _=>skV 214 215 4
theorem skLook {t:Int} (h1 : 1≤t) (h4:t≤4) {b:Nat} {V:World} (hb:V.heap[b]? = some (.map skMap 4)) :
 (Instr.lookup 245 (.map (some b)) (.int .i64 t) true).run Tryz.prog V = .ok (.tuple #[skOf t,.bool true]) V:=by
 have hc:t=1 ∨ t=2 ∨ t=3 ∨ t=4:=by omega
 rcases hc with rfl | rfl | rfl | rfl
 ·exact run_lookup_int_ok (k:=.i64) Tryz.underlying245 Tryz.underlying65 (i:=0) rfl hb
 ·exact run_lookup_int_ok (k:=.i64) Tryz.underlying245 Tryz.underlying65 (i:=1) rfl hb
 ·exact run_lookup_int_ok (k:=.i64) Tryz.underlying245 Tryz.underlying65 (i:=2) rfl hb
 ·exact run_lookup_int_ok (k:=.i64) Tryz.underlying245 Tryz.underlying65 (i:=3) rfl hb
theorem skLookNo {t:Int} (h : ¬ (1≤t∧t≤4)) {b:Nat} {V:World} (hb:V.heap[b]? = some (.map skMap 4)) :
 (Instr.lookup 245 (.map (some b)) (.int .i64 t) true).run Tryz.prog V = .ok (.tuple #[.agg #[.nilFunc,.int .i64 0,.nilFunc],.bool false]) V:=by
 refine run_lookup_int_none (k:=.i64) Tryz.underlying245 Tryz.underlying65 ?_ ?_ hb
 ·have h1:(t == 1)=false:=by rw [beq_eq_false_iff_ne];omega
  have h2:(t == 2)=false:=by rw [beq_eq_false_iff_ne];omega
  have h3:(t == 3)=false:=by rw [beq_eq_false_iff_ne];omega
  have h4:(t == 4)=false:=by rw [beq_eq_false_iff_ne];omega
  simp [skMap,skE,Instr.findNow,Instr.sameNow,h1,h2,h3,h4]
 ·kernel_rfl
theorem scwhole_any (z:Int) (w:World):Calls Tryz.prog 209 #[.int .i64 z] w fun e w'=>e = .returned (.bool (decide (z=1 ∨ z=2 ∨ z=4 ∨ z=8)))∧Bel w w':=by
 by_cases h:z=1 ∨ z=2 ∨ z=4 ∨ z=8
 ·rw [decide_eq_true h]
  rcases h with rfl | rfl | rfl | rfl
  all_goals
   go_enter Tryz.func209,Tryz.ntmps209
   go_wp2
   go_ret
   exact ⟨rfl,by (repeat (first | exact Below.refl _ _ | assumption | exact Bel.refl _ | refine Bel.alloc ?_ _ | refine Bel.drew ?_ | refine Bel.drewN ?_ _ | refine Bel.then_ ?_ (by assumption) | refine Bel.setCell ?_ (by first | (simp;done) | (simp;omega)) _))⟩
 ·rw [decide_eq_false h]
  have h1:(z == 1)=false:=by rw [beq_eq_false_iff_ne];omega
  have h2:(z == 2)=false:=by rw [beq_eq_false_iff_ne];omega
  have h3:(z == 4)=false:=by rw [beq_eq_false_iff_ne];omega
  have h4:(z == 8)=false:=by rw [beq_eq_false_iff_ne];omega
  clear h
  go_enter Tryz.func209,Tryz.ntmps209
  go_wp2
  go_ret
  exact ⟨rfl,by (repeat (first | exact Below.refl _ _ | assumption | exact Bel.refl _ | refine Bel.alloc ?_ _ | refine Bel.drew ?_ | refine Bel.drewN ?_ _ | refine Bel.then_ ?_ (by assumption) | refine Bel.setCell ?_ (by first | (simp;done) | (simp;omega)) _))⟩
theorem sckc_any (z:Int) (w:World):Calls Tryz.prog 212 #[.int .i64 z] w fun e w'=>e = .returned (.bool (decide (z=0)))∧Bel w w':=by
 by_cases h:z=0
 ·subst h
  go_enter Tryz.func212,Tryz.ntmps212
  go_wp2
  go_ret
  exact ⟨rfl,by (repeat (first | exact Below.refl _ _ | assumption | exact Bel.refl _ | refine Bel.alloc ?_ _ | refine Bel.drew ?_ | refine Bel.drewN ?_ _ | refine Bel.then_ ?_ (by assumption) | refine Bel.setCell ?_ (by first | (simp;done) | (simp;omega)) _))⟩
 ·rw [decide_eq_false h]
  have h1:(z == 0)=false:=by rw [beq_eq_false_iff_ne];omega
  go_enter Tryz.func212,Tryz.ntmps212
  go_wp2
  go_ret
  exact ⟨by first | rfl | simp [h1],by (repeat (first | exact Below.refl _ _ | assumption | exact Bel.refl _ | refine Bel.alloc ?_ _ | refine Bel.drew ?_ | refine Bel.drewN ?_ _ | refine Bel.then_ ?_ (by assumption) | refine Bel.setCell ?_ (by first | (simp;done) | (simp;omega)) _))⟩
theorem scke_any (z:Int) (w:World):Calls Tryz.prog 214 #[.int .i64 z] w fun e w'=>e = .returned (.bool (decide (1≤z∧z≤200)))∧Bel w w':=by
 by_cases h : 1≤z
 ·by_cases h2:z≤200
  ·rw [decide_eq_true ⟨h,h2⟩]
   go_enter Tryz.func214,Tryz.ntmps214
   go_wp2
   go_ret
   exact ⟨by first | rfl | simp [h,h2],by (repeat (first | exact Below.refl _ _ | assumption | exact Bel.refl _ | refine Bel.alloc ?_ _ | refine Bel.drew ?_ | refine Bel.drewN ?_ _ | refine Bel.then_ ?_ (by assumption) | refine Bel.setCell ?_ (by first | (simp;done) | (simp;omega)) _))⟩
  ·rw [decide_eq_false (by omega)]
   have h3:decide (z≤200)=false:=by simp;omega
   go_enter Tryz.func214,Tryz.ntmps214
   go_wp2
   go_ret
   exact ⟨by first | rfl | simp [h,h2],by (repeat (first | exact Below.refl _ _ | assumption | exact Bel.refl _ | refine Bel.alloc ?_ _ | refine Bel.drew ?_ | refine Bel.drewN ?_ _ | refine Bel.then_ ?_ (by assumption) | refine Bel.setCell ?_ (by first | (simp;done) | (simp;omega)) _))⟩
 ·rw [decide_eq_false (by omega)]
  have h3:decide (1≤z)=false:=by simp;omega
  go_enter Tryz.func214,Tryz.ntmps214
  go_wp2
  go_ret
  exact ⟨by first | rfl | simp [h],by (repeat (first | exact Below.refl _ _ | assumption | exact Bel.refl _ | refine Bel.alloc ?_ _ | refine Bel.drew ?_ | refine Bel.drewN ?_ _ | refine Bel.then_ ?_ (by assumption) | refine Bel.setCell ?_ (by first | (simp;done) | (simp;omega)) _))⟩
theorem skOf_is {t:Int} (h1 : 1≤t) (h4:t≤4) : ∃ f g,skOf t=skV f g t∧(∀ args w,(callFunc f args).run Tryz.prog w = .ok (.enter f args) w) ∧
 ∀ z w,Calls Tryz.prog f #[.int .i64 z] w fun e w'=>e = .returned (.bool (sizeB t z))∧Bel w w':=by
 have hc:t=1 ∨ t=2 ∨ t=3 ∨ t=4:=by omega
 rcases hc with rfl | rfl | rfl | rfl
 ·exact ⟨_,_,rfl,enters_of Tryz.func209 (by kernel_rfl) rfl,fun z w=>by have:=scwhole_any z w;exact this⟩
 ·exact ⟨_,_,rfl,enters_of Tryz.func209 (by kernel_rfl) rfl,fun z w=>by have:=scwhole_any z w;exact this⟩
 ·exact ⟨_,_,rfl,enters_of Tryz.func212 (by kernel_rfl) rfl,fun z w=>by have:=sckc_any z w;exact this⟩
 ·exact ⟨_,_,rfl,enters_of Tryz.func214 (by kernel_rfl) rfl,fun z w=>by have:=scke_any z w;exact this⟩
set_option maxRecDepth 100000 in
set_option maxHeartbeats 4000000 in
theorem scright_any (c:Col) (w:World):Calls Tryz.prog 176 #[c.v] w fun e w'=>e = .returned (.bool (rightB c))∧Bel w w':=by
 obtain ⟨name,t,z,null⟩:=c
 obtain ⟨R,hR⟩ : ∃ R,R=rightB ⟨name,t,z,null⟩:=⟨_,rfl⟩
 rw [← hR]
 have HR:=Lib.hid hR
 clear hR
 unfold Col.v
 dsimp only
 by_cases ht : 1≤t∧t≤4
 ·obtain ⟨f,g,hk,egf,hsz⟩:=skOf_is ht.1 ht.2
  have HSZ:=Lib.hid (fun V=>hsz z V)
  clear hsz
  have HLO:=Lib.hid (fun (b:Nat) (V:World) (hb:V.heap[b]? = some (.map skMap 4))=>skLook ht.1 ht.2 hb)
  rw [hk] at HLO
  unfold skV at HLO
  have HK:=Lib.hid hk
  have HT:=Lib.hid ht
  clear hk ht
  go_enter Tryz.func176,Tryz.ntmps176
  go_wp2
  obtain ⟨w1,hw1⟩ : ∃ w1,w1=w.alloc (.cells #[.string name,.int .i64 t,.int .i64 z,.bool null] 67):=⟨_,rfl⟩
  rw [← hw1]
  have hb1:Bel w w1:=by rw [hw1];exact (Bel.refl w).alloc _
  have hc0:w1.cell? ⟨w.heap.size,0,none⟩=some (.string name):=by rw [hw1];go_simp
  have hc1:w1.cell? ⟨w.heap.size,1,none⟩=some (.int .i64 t):=by rw [hw1];go_simp
  have hc2:w1.cell? ⟨w.heap.size,2,none⟩=some (.int .i64 z):=by rw [hw1];go_simp
  clear hw1
  have hS : ∀ V,Bel w1 V→(Bel w1 V∧V.cell? ⟨w.heap.size,1,none⟩=some (.int .i64 t)):=fun V h=>⟨h,h.c hc1⟩
  apply wp_cut2 (R:=fun bm bx V=>Bel w1 V∧V.cell? ⟨bx,0,none⟩=some (.func (.func f) #[] #[]))
  case h =>
   refine wp_region_noPanic ?_
   refine wp_region_held_drew (S:=(fun V:World=>Bel w1 V∧V.cell? ⟨w.heap.size,1,none⟩=some (.int .i64 t))) (by kernel_rfl) ?_ (fun hHr1_0=>?_)
   ·(try dsimp only);(first | assumption | exact hS _ (Bel.refl w1).drew | exact hS _ hB2 | exact hS _ (Bel.alloc hB2 _) | exact hS _ (Bel.alloc (Bel.refl w1).drew _) | exact hS _ (Bel.setCell (Bel.setCell (Bel.setCell hB2 (Nat.le_refl _) _) (Nat.le_refl _) _) (Nat.le_refl _) _))
   refine tk 1 ?_
   refine tk 2 ?_
   refine wpAnyH_ready (rs:=[0,7]) (by kernel_rfl) (by simp) ?_
   refine AllReadyH.cons (o:=_) rfl (fun K hK=>?_) (AllReadyH.cons (o:=_) rfl (fun K hK=>?_) (AllReadyH.nil))
   ·go_simp
    (go_at_call 192;refine (sckinds_any _).mono ?_;rintro e w2 ⟨bm,rfl,hm,hb2⟩;have hB2:Bel w1 w2:=Bel.then_ (Bel.refl w1).drew hb2)
    try (go_wp2_with fail)
    refine hK.out _ _ ?_ (fun hHr1_1=>?_)
    ·(try dsimp only);(first | assumption | exact hS _ (Bel.refl w1).drew | exact hS _ hB2 | exact hS _ (Bel.alloc hB2 _) | exact hS _ (Bel.alloc (Bel.refl w1).drew _) | exact hS _ (Bel.setCell (Bel.setCell (Bel.setCell hB2 (Nat.le_refl _) _) (Nat.le_refl _) _) (Nat.le_refl _) _))
    clear hK K hHr1_0
    try simp only [tkp0,tkp1,tkp2,tkp3,tkp4,tkp5,tkp6,tkp7]
    refine wpAnyH_ready (rs:=[3,7]) (by kernel_rfl) (by simp) ?_
    refine AllReadyH.cons (o:=_) rfl (fun K hK=>?_) (AllReadyH.cons (o:=_) rfl (fun K hK=>?_) (AllReadyH.nil))
    ·go_simp
     ((have hlk:=HLO.out bm _ hm);go_simp)
     refine hK.out _ _ ?_ (fun hHr1_2=>?_)
     ·(try dsimp only);(first | assumption | exact hS _ (Bel.refl w1).drew | exact hS _ hB2 | exact hS _ (Bel.alloc hB2 _) | exact hS _ (Bel.alloc (Bel.refl w1).drew _) | exact hS _ (Bel.setCell (Bel.setCell (Bel.setCell hB2 (Nat.le_refl _) _) (Nat.le_refl _) _) (Nat.le_refl _) _))
     clear hK K hHr1_1
     try simp only [tkp0,tkp1,tkp2,tkp3,tkp4,tkp5,tkp6,tkp7]
     refine tk 4 ?_
     refine tk 5 ?_
     refine tk 6 ?_
     refine rd1 7 (fun K hK=>?_)
     go_simp
     refine hK.out _ _ ?_ (fun hHr1_3=>?_)
     ·(try dsimp only);(first | assumption | exact hS _ (Bel.refl w1).drew | exact hS _ hB2 | exact hS _ (Bel.alloc hB2 _) | exact hS _ (Bel.alloc (Bel.refl w1).drew _) | exact hS _ (Bel.setCell (Bel.setCell (Bel.setCell hB2 (Nat.le_refl _) _) (Nat.le_refl _) _) (Nat.le_refl _) _))
     clear hK K hHr1_2
     try simp only [tkp0,tkp1,tkp2,tkp3,tkp4,tkp5,tkp6,tkp7]
     refine rd1 8 (fun K hK=>?_)
     go_simp
     refine hK.out _ _ ?_ (fun hHr1_4=>?_)
     ·(try dsimp only);(first | assumption | exact hS _ (Bel.refl w1).drew | exact hS _ hB2 | exact hS _ (Bel.alloc hB2 _) | exact hS _ (Bel.alloc (Bel.refl w1).drew _) | exact hS _ (Bel.setCell (Bel.setCell (Bel.setCell hB2 (Nat.le_refl _) _) (Nat.le_refl _) _) (Nat.le_refl _) _))
     clear hK K hHr1_3
     try simp only [tkp0,tkp1,tkp2,tkp3,tkp4,tkp5,tkp6,tkp7]
     refine tk 9 ?_
     refine wpAnyH_done (by kernel_rfl) ?_ _
     refine NoPanic.normal ?_
     (refine ⟨bm,w2.heap.size,rfl,?_,hHr1_4.1,by go_simp⟩;generalize w2.heap.size=bx;exact rfl)
    ·go_simp
     refine hK.out _ _ ?_ (fun hHr1_2=>?_)
     ·(try dsimp only);(first | assumption | exact hS _ (Bel.refl w1).drew | exact hS _ hB2 | exact hS _ (Bel.alloc hB2 _) | exact hS _ (Bel.alloc (Bel.refl w1).drew _) | exact hS _ (Bel.setCell (Bel.setCell (Bel.setCell hB2 (Nat.le_refl _) _) (Nat.le_refl _) _) (Nat.le_refl _) _))
     clear hK K hHr1_1
     try simp only [tkp0,tkp1,tkp2,tkp3,tkp4,tkp5,tkp6,tkp7]
     refine rd1 3 (fun K hK=>?_)
     go_simp
     ((have hlk:=HLO.out bm _ (((Bel.refl w2).alloc (.cells #[.nilFunc,.int .i64 0,.nilFunc] 244)).deferred hm));go_simp)
     refine hK.out _ _ ?_ (fun hHr1_3=>?_)
     ·(try dsimp only);(first | assumption | exact hS _ (Bel.refl w1).drew | exact hS _ hB2 | exact hS _ (Bel.alloc hB2 _) | exact hS _ (Bel.alloc (Bel.refl w1).drew _) | exact hS _ (Bel.setCell (Bel.setCell (Bel.setCell hB2 (Nat.le_refl _) _) (Nat.le_refl _) _) (Nat.le_refl _) _))
     clear hK K hHr1_2
     try simp only [tkp0,tkp1,tkp2,tkp3,tkp4,tkp5,tkp6,tkp7]
     refine tk 4 ?_
     refine tk 5 ?_
     refine tk 6 ?_
     refine rd1 8 (fun K hK=>?_)
     go_simp
     refine hK.out _ _ ?_ (fun hHr1_4=>?_)
     ·(try dsimp only);(first | assumption | exact hS _ (Bel.refl w1).drew | exact hS _ hB2 | exact hS _ (Bel.alloc hB2 _) | exact hS _ (Bel.alloc (Bel.refl w1).drew _) | exact hS _ (Bel.setCell (Bel.setCell (Bel.setCell hB2 (Nat.le_refl _) _) (Nat.le_refl _) _) (Nat.le_refl _) _))
     clear hK K hHr1_3
     try simp only [tkp0,tkp1,tkp2,tkp3,tkp4,tkp5,tkp6,tkp7]
     refine tk 9 ?_
     refine wpAnyH_done (by kernel_rfl) ?_ _
     refine NoPanic.normal ?_
     (refine ⟨bm,w2.heap.size,rfl,?_,hHr1_4.1,by go_simp⟩;generalize w2.heap.size=bx;exact rfl)
   ·go_simp
    refine hK.out _ _ ?_ (fun hHr1_1=>?_)
    ·(try dsimp only);(first | assumption | exact hS _ (Bel.refl w1).drew | exact hS _ hB2 | exact hS _ (Bel.alloc hB2 _) | exact hS _ (Bel.alloc (Bel.refl w1).drew _) | exact hS _ (Bel.setCell (Bel.setCell (Bel.setCell hB2 (Nat.le_refl _) _) (Nat.le_refl _) _) (Nat.le_refl _) _))
    clear hK K hHr1_0
    try simp only [tkp0,tkp1,tkp2,tkp3,tkp4,tkp5,tkp6,tkp7]
    refine rd1 0 (fun K hK=>?_)
    go_simp
    (go_at_call 192;refine (sckinds_any _).mono ?_;rintro e w2 ⟨bm,rfl,hm,hb2⟩;have hB2:Bel w1 w2:=Bel.then_ (Bel.alloc (Bel.refl w1).drew _) hb2;have z0:w2.cell? ⟨w1.heap.size,0,none⟩=some .nilFunc:=hb2.c (by go_simp);have z1:w2.cell? ⟨w1.heap.size,1,none⟩=some (.int .i64 0):=hb2.c (by go_simp);have z2:w2.cell? ⟨w1.heap.size,2,none⟩=some .nilFunc:=hb2.c (by go_simp);have y0:w2.frozen? ⟨w1.heap.size,0,none⟩=false:=(Below.frozen hb2 (by simp)).trans (by go_simp);have y1:w2.frozen? ⟨w1.heap.size,1,none⟩=false:=(Below.frozen hb2 (by simp)).trans (by go_simp);have y2:w2.frozen? ⟨w1.heap.size,2,none⟩=false:=(Below.frozen hb2 (by simp)).trans (by go_simp))
    try (go_wp2_with fail)
    refine hK.out _ _ ?_ (fun hHr1_2=>?_)
    ·(try dsimp only);(first | assumption | exact hS _ (Bel.refl w1).drew | exact hS _ hB2 | exact hS _ (Bel.alloc hB2 _) | exact hS _ (Bel.alloc (Bel.refl w1).drew _) | exact hS _ (Bel.setCell (Bel.setCell (Bel.setCell hB2 (Nat.le_refl _) _) (Nat.le_refl _) _) (Nat.le_refl _) _))
    clear hK K hHr1_1
    try simp only [tkp0,tkp1,tkp2,tkp3,tkp4,tkp5,tkp6,tkp7]
    refine rd1 3 (fun K hK=>?_)
    go_simp
    ((have hlk:=HLO.out bm _ hm);go_simp)
    refine hK.out _ _ ?_ (fun hHr1_3=>?_)
    ·(try dsimp only);(first | assumption | exact hS _ (Bel.refl w1).drew | exact hS _ hB2 | exact hS _ (Bel.alloc hB2 _) | exact hS _ (Bel.alloc (Bel.refl w1).drew _) | exact hS _ (Bel.setCell (Bel.setCell (Bel.setCell hB2 (Nat.le_refl _) _) (Nat.le_refl _) _) (Nat.le_refl _) _))
    clear hK K hHr1_2
    try simp only [tkp0,tkp1,tkp2,tkp3,tkp4,tkp5,tkp6,tkp7]
    refine tk 4 ?_
    refine tk 5 ?_
    refine tk 6 ?_
    refine rd1 8 (fun K hK=>?_)
    go_simp
    refine hK.out _ _ ?_ (fun hHr1_4=>?_)
    ·(try dsimp only);(first | assumption | exact hS _ (Bel.refl w1).drew | exact hS _ hB2 | exact hS _ (Bel.alloc hB2 _) | exact hS _ (Bel.alloc (Bel.refl w1).drew _) | exact hS _ (Bel.setCell (Bel.setCell (Bel.setCell hB2 (Nat.le_refl _) _) (Nat.le_refl _) _) (Nat.le_refl _) _))
    clear hK K hHr1_3
    try simp only [tkp0,tkp1,tkp2,tkp3,tkp4,tkp5,tkp6,tkp7]
    refine tk 9 ?_
    refine wpAnyH_done (by kernel_rfl) ?_ _
    refine NoPanic.normal ?_
    (refine ⟨bm,w1.heap.size,rfl,?_,hHr1_4.1,by go_simp⟩;generalize w1.heap.size=bx;exact rfl)
  case k =>
   rintro bm bx V ⟨hb,hk0⟩
   have HB:=Lib.hid (hb1.then_ hb)
   have hd0:=hb.c hc0
   have hd2:=hb.c hc2
   clear hS hb1 hb hc0 hc1 hc2
   obtain ⟨nb,hnb⟩ : ∃ nb,nb=namedB name:=⟨_,rfl⟩
   have HNM:=Lib.hid (fun V=>named_any name V)
   rw [← hnb] at HNM
   have HNB:=Lib.hid hnb
   clear hnb
   cases nb
   ·go_wp2_with (go_at_call 194;refine (HNM.out _).mono ?_;rintro e w4 ⟨rfl,hb4⟩)
    go_ret
    exact ⟨by rw [HR.out];unfold rightB;dsimp only;rw [← HNB.out];simp,HB.out.then_ hb4⟩
   ·go_wp2_with (first | (go_at_call 194;refine (HNM.out _).mono ?_;rintro e w4 ⟨rfl,hb4⟩;have hk4:=hb4.c hk0;have hd4:=hb4.c hd2) | (go_at_fn f;refine (HSZ.out _).mono ?_;rintro e w5 ⟨rfl,hb5⟩))
    go_ret
    exact ⟨by rw [HR.out];unfold rightB;dsimp only;rw [← HNB.out,decide_eq_true HT.out];simp,(HB.out.then_ hb4).then_ hb5⟩
 ·have HLO:=Lib.hid (fun (b:Nat) (V:World) (hb:V.heap[b]? = some (.map skMap 4))=>skLookNo ht hb)
  have HRF:Hid (R=false):=by show R=false;rw [HR.out];unfold rightB;dsimp only;rw [decide_eq_false ht];simp
  clear ht
  go_enter Tryz.func176,Tryz.ntmps176
  go_wp2
  obtain ⟨w1,hw1⟩ : ∃ w1,w1=w.alloc (.cells #[.string name,.int .i64 t,.int .i64 z,.bool null] 67):=⟨_,rfl⟩
  rw [← hw1]
  have hb1:Bel w w1:=by rw [hw1];exact (Bel.refl w).alloc _
  have hc0:w1.cell? ⟨w.heap.size,0,none⟩=some (.string name):=by rw [hw1];go_simp
  have hc1:w1.cell? ⟨w.heap.size,1,none⟩=some (.int .i64 t):=by rw [hw1];go_simp
  have hc2:w1.cell? ⟨w.heap.size,2,none⟩=some (.int .i64 z):=by rw [hw1];go_simp
  clear hw1
  have hS : ∀ V,Bel w1 V→(Bel w1 V∧V.cell? ⟨w.heap.size,1,none⟩=some (.int .i64 t)):=fun V h=>⟨h,h.c hc1⟩
  apply wp_cut2 (R:=fun bm bx V=>Bel w1 V∧True)
  case h =>
   refine wp_region_noPanic ?_
   refine wp_region_held_drew (S:=(fun V:World=>Bel w1 V∧V.cell? ⟨w.heap.size,1,none⟩=some (.int .i64 t))) (by kernel_rfl) ?_ (fun hHr2_0=>?_)
   ·(try dsimp only);(first | assumption | exact hS _ (Bel.refl w1).drew | exact hS _ hB2 | exact hS _ (Bel.alloc hB2 _) | exact hS _ (Bel.alloc (Bel.refl w1).drew _) | exact hS _ (Bel.setCell (Bel.setCell (Bel.setCell hB2 (Nat.le_refl _) _) (Nat.le_refl _) _) (Nat.le_refl _) _))
   refine tk 1 ?_
   refine tk 2 ?_
   refine wpAnyH_ready (rs:=[0,7]) (by kernel_rfl) (by simp) ?_
   refine AllReadyH.cons (o:=_) rfl (fun K hK=>?_) (AllReadyH.cons (o:=_) rfl (fun K hK=>?_) (AllReadyH.nil))
   ·go_simp
    (go_at_call 192;refine (sckinds_any _).mono ?_;rintro e w2 ⟨bm,rfl,hm,hb2⟩;have hB2:Bel w1 w2:=Bel.then_ (Bel.refl w1).drew hb2)
    try (go_wp2_with fail)
    refine hK.out _ _ ?_ (fun hHr2_1=>?_)
    ·(try dsimp only);(first | assumption | exact hS _ (Bel.refl w1).drew | exact hS _ hB2 | exact hS _ (Bel.alloc hB2 _) | exact hS _ (Bel.alloc (Bel.refl w1).drew _) | exact hS _ (Bel.setCell (Bel.setCell (Bel.setCell hB2 (Nat.le_refl _) _) (Nat.le_refl _) _) (Nat.le_refl _) _))
    clear hK K hHr2_0
    try simp only [tkp0,tkp1,tkp2,tkp3,tkp4,tkp5,tkp6,tkp7]
    refine wpAnyH_ready (rs:=[3,7]) (by kernel_rfl) (by simp) ?_
    refine AllReadyH.cons (o:=_) rfl (fun K hK=>?_) (AllReadyH.cons (o:=_) rfl (fun K hK=>?_) (AllReadyH.nil))
    ·go_simp
     ((have hlk:=HLO.out bm _ hm);go_simp)
     refine hK.out _ _ ?_ (fun hHr2_2=>?_)
     ·(try dsimp only);(first | assumption | exact hS _ (Bel.refl w1).drew | exact hS _ hB2 | exact hS _ (Bel.alloc hB2 _) | exact hS _ (Bel.alloc (Bel.refl w1).drew _) | exact hS _ (Bel.setCell (Bel.setCell (Bel.setCell hB2 (Nat.le_refl _) _) (Nat.le_refl _) _) (Nat.le_refl _) _))
     clear hK K hHr2_1
     try simp only [tkp0,tkp1,tkp2,tkp3,tkp4,tkp5,tkp6,tkp7]
     refine tk 4 ?_
     refine tk 5 ?_
     refine tk 6 ?_
     refine rd1 7 (fun K hK=>?_)
     go_simp
     refine hK.out _ _ ?_ (fun hHr2_3=>?_)
     ·(try dsimp only);(first | assumption | exact hS _ (Bel.refl w1).drew | exact hS _ hB2 | exact hS _ (Bel.alloc hB2 _) | exact hS _ (Bel.alloc (Bel.refl w1).drew _) | exact hS _ (Bel.setCell (Bel.setCell (Bel.setCell hB2 (Nat.le_refl _) _) (Nat.le_refl _) _) (Nat.le_refl _) _))
     clear hK K hHr2_2
     try simp only [tkp0,tkp1,tkp2,tkp3,tkp4,tkp5,tkp6,tkp7]
     refine rd1 8 (fun K hK=>?_)
     go_simp
     refine hK.out _ _ ?_ (fun hHr2_4=>?_)
     ·(try dsimp only);(first | assumption | exact hS _ (Bel.refl w1).drew | exact hS _ hB2 | exact hS _ (Bel.alloc hB2 _) | exact hS _ (Bel.alloc (Bel.refl w1).drew _) | exact hS _ (Bel.setCell (Bel.setCell (Bel.setCell hB2 (Nat.le_refl _) _) (Nat.le_refl _) _) (Nat.le_refl _) _))
     clear hK K hHr2_3
     try simp only [tkp0,tkp1,tkp2,tkp3,tkp4,tkp5,tkp6,tkp7]
     refine tk 9 ?_
     refine wpAnyH_done (by kernel_rfl) ?_ _
     refine NoPanic.normal ?_
     (refine ⟨bm,w2.heap.size,rfl,?_,hHr2_4.1,trivial⟩;generalize w2.heap.size=bx;exact rfl)
    ·go_simp
     refine hK.out _ _ ?_ (fun hHr2_2=>?_)
     ·(try dsimp only);(first | assumption | exact hS _ (Bel.refl w1).drew | exact hS _ hB2 | exact hS _ (Bel.alloc hB2 _) | exact hS _ (Bel.alloc (Bel.refl w1).drew _) | exact hS _ (Bel.setCell (Bel.setCell (Bel.setCell hB2 (Nat.le_refl _) _) (Nat.le_refl _) _) (Nat.le_refl _) _))
     clear hK K hHr2_1
     try simp only [tkp0,tkp1,tkp2,tkp3,tkp4,tkp5,tkp6,tkp7]
     refine rd1 3 (fun K hK=>?_)
     go_simp
     ((have hlk:=HLO.out bm _ (((Bel.refl w2).alloc (.cells #[.nilFunc,.int .i64 0,.nilFunc] 244)).deferred hm));go_simp)
     refine hK.out _ _ ?_ (fun hHr2_3=>?_)
     ·(try dsimp only);(first | assumption | exact hS _ (Bel.refl w1).drew | exact hS _ hB2 | exact hS _ (Bel.alloc hB2 _) | exact hS _ (Bel.alloc (Bel.refl w1).drew _) | exact hS _ (Bel.setCell (Bel.setCell (Bel.setCell hB2 (Nat.le_refl _) _) (Nat.le_refl _) _) (Nat.le_refl _) _))
     clear hK K hHr2_2
     try simp only [tkp0,tkp1,tkp2,tkp3,tkp4,tkp5,tkp6,tkp7]
     refine tk 4 ?_
     refine tk 5 ?_
     refine tk 6 ?_
     refine rd1 8 (fun K hK=>?_)
     go_simp
     refine hK.out _ _ ?_ (fun hHr2_4=>?_)
     ·(try dsimp only);(first | assumption | exact hS _ (Bel.refl w1).drew | exact hS _ hB2 | exact hS _ (Bel.alloc hB2 _) | exact hS _ (Bel.alloc (Bel.refl w1).drew _) | exact hS _ (Bel.setCell (Bel.setCell (Bel.setCell hB2 (Nat.le_refl _) _) (Nat.le_refl _) _) (Nat.le_refl _) _))
     clear hK K hHr2_3
     try simp only [tkp0,tkp1,tkp2,tkp3,tkp4,tkp5,tkp6,tkp7]
     refine tk 9 ?_
     refine wpAnyH_done (by kernel_rfl) ?_ _
     refine NoPanic.normal ?_
     (refine ⟨bm,w2.heap.size,rfl,?_,hHr2_4.1,trivial⟩;generalize w2.heap.size=bx;exact rfl)
   ·go_simp
    refine hK.out _ _ ?_ (fun hHr2_1=>?_)
    ·(try dsimp only);(first | assumption | exact hS _ (Bel.refl w1).drew | exact hS _ hB2 | exact hS _ (Bel.alloc hB2 _) | exact hS _ (Bel.alloc (Bel.refl w1).drew _) | exact hS _ (Bel.setCell (Bel.setCell (Bel.setCell hB2 (Nat.le_refl _) _) (Nat.le_refl _) _) (Nat.le_refl _) _))
    clear hK K hHr2_0
    try simp only [tkp0,tkp1,tkp2,tkp3,tkp4,tkp5,tkp6,tkp7]
    refine rd1 0 (fun K hK=>?_)
    go_simp
    (go_at_call 192;refine (sckinds_any _).mono ?_;rintro e w2 ⟨bm,rfl,hm,hb2⟩;have hB2:Bel w1 w2:=Bel.then_ (Bel.alloc (Bel.refl w1).drew _) hb2;have z0:w2.cell? ⟨w1.heap.size,0,none⟩=some .nilFunc:=hb2.c (by go_simp);have z1:w2.cell? ⟨w1.heap.size,1,none⟩=some (.int .i64 0):=hb2.c (by go_simp);have z2:w2.cell? ⟨w1.heap.size,2,none⟩=some .nilFunc:=hb2.c (by go_simp);have y0:w2.frozen? ⟨w1.heap.size,0,none⟩=false:=(Below.frozen hb2 (by simp)).trans (by go_simp);have y1:w2.frozen? ⟨w1.heap.size,1,none⟩=false:=(Below.frozen hb2 (by simp)).trans (by go_simp);have y2:w2.frozen? ⟨w1.heap.size,2,none⟩=false:=(Below.frozen hb2 (by simp)).trans (by go_simp))
    try (go_wp2_with fail)
    refine hK.out _ _ ?_ (fun hHr2_2=>?_)
    ·(try dsimp only);(first | assumption | exact hS _ (Bel.refl w1).drew | exact hS _ hB2 | exact hS _ (Bel.alloc hB2 _) | exact hS _ (Bel.alloc (Bel.refl w1).drew _) | exact hS _ (Bel.setCell (Bel.setCell (Bel.setCell hB2 (Nat.le_refl _) _) (Nat.le_refl _) _) (Nat.le_refl _) _))
    clear hK K hHr2_1
    try simp only [tkp0,tkp1,tkp2,tkp3,tkp4,tkp5,tkp6,tkp7]
    refine rd1 3 (fun K hK=>?_)
    go_simp
    ((have hlk:=HLO.out bm _ hm);go_simp)
    refine hK.out _ _ ?_ (fun hHr2_3=>?_)
    ·(try dsimp only);(first | assumption | exact hS _ (Bel.refl w1).drew | exact hS _ hB2 | exact hS _ (Bel.alloc hB2 _) | exact hS _ (Bel.alloc (Bel.refl w1).drew _) | exact hS _ (Bel.setCell (Bel.setCell (Bel.setCell hB2 (Nat.le_refl _) _) (Nat.le_refl _) _) (Nat.le_refl _) _))
    clear hK K hHr2_2
    try simp only [tkp0,tkp1,tkp2,tkp3,tkp4,tkp5,tkp6,tkp7]
    refine tk 4 ?_
    refine tk 5 ?_
    refine tk 6 ?_
    refine rd1 8 (fun K hK=>?_)
    go_simp
    refine hK.out _ _ ?_ (fun hHr2_4=>?_)
    ·(try dsimp only);(first | assumption | exact hS _ (Bel.refl w1).drew | exact hS _ hB2 | exact hS _ (Bel.alloc hB2 _) | exact hS _ (Bel.alloc (Bel.refl w1).drew _) | exact hS _ (Bel.setCell (Bel.setCell (Bel.setCell hB2 (Nat.le_refl _) _) (Nat.le_refl _) _) (Nat.le_refl _) _))
    clear hK K hHr2_3
    try simp only [tkp0,tkp1,tkp2,tkp3,tkp4,tkp5,tkp6,tkp7]
    refine tk 9 ?_
    refine wpAnyH_done (by kernel_rfl) ?_ _
    refine NoPanic.normal ?_
    (refine ⟨bm,w1.heap.size,rfl,?_,hHr2_4.1,trivial⟩;generalize w1.heap.size=bx;exact rfl)
  case k =>
   rintro bm bx V ⟨hb,-⟩
   have HB:=Lib.hid (hb1.then_ hb)
   have hd0:=hb.c hc0
   clear hS hb1 hb hc0 hc1 hc2
   go_wp2_with fail
   go_ret
   exact ⟨by rw [HRF.out];rfl,HB.out⟩
end
end Go.Proofs.YtnajjhgbombboaaGreatDoor
