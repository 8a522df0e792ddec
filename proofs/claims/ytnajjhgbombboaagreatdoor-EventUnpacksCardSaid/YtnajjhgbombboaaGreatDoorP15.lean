/-
  Texts behind the statement: part 15.
-/
import Derived.Test.YtnajjhgbombboaaGreatDoorP14
set_option linter.unusedVariables false
set_option linter.unusedSimpArgs false
namespace Go.Proofs.YtnajjhgbombboaaGreatDoor
section
open Go.RowKit Go.Shelf Go.Lib
attribute [local go_sem] Oper.semAt_some
theorem kcaught_idle (p c:Value) (w:World):CallsD Tryz.prog 171 #[p,c] .returning w fun e u' w'=>e = .returned (.tuple #[])∧u' = .returning∧w'=w:=by
 have hn:=neq_nil
 refine callsD_of_wpS Tryz.func171 rfl fun c₀ cs hu=>?_
 apply wpS_seq
 apply wpS_region
 simp [wpOpsS,go_sem,recoverD,hu,Tryz.ntmps171,Exit.thenS]
 simp only [Array.replicate,List.replicate,List.setIfInBounds_toArray,List.set_cons_succ,List.set_cons_zero,List.append_toArray,List.cons_append,List.nil_append]
 refine wpS_of_wp ?_
 go_wp2
 cases c₀
 simp_all [bodyPostS,results,Tryz.results171]
structure KS (w:World) (x:Val) (r:List UInt8) (V:World):Prop where
 bel:Bel w V
 val:Blk V w.heap.size 64 (vcells x)
 many:Blk V (w.heap.size+1) 3 #[.int .i64 0]
 err:Blk V (w.heap.size+2) 35 #[.int .i64 0]
 tape:Blk V (w.heap.size+3) 215 #[strV r]
theorem kcaught_gave {w V:World} (hb:Bel w V) {x:Val} (hx:Blk V w.heap.size 64 (vcells x)) (hm:Blk V (w.heap.size+1) 3 #[.int .i64 0]) (he:Blk V (w.heap.size+2) 35 #[.int .i64 0]) :
 CallsD Tryz.prog 171 #[.pointer (some ⟨w.heap.size+2,0,none⟩),.func (.func 172) #[] #[.pointer (some ⟨w.heap.size,0,none⟩),.pointer (some ⟨w.heap.size+1,0,none⟩)]] (.panicking kGave) V fun e u' w' =>
  e = .returned (.tuple #[])∧u' = .panicking [{ v:=.iface 35 (.int .i64 150),recovered:=true }]∧Bel w w'∧Blk w' w.heap.size 64 (vcells noVal)∧Blk w' (w.heap.size+1) 3 #[.int .i64 0]∧Blk w' (w.heap.size+2) 35 #[.int .i64 150]:=by
 have hn:=neq_errno
 have ha:=assert_errno
 have HC:=Lib.hid (kyOneC_any w.heap.size (w.heap.size+1) x 0 (by omega) V hx hm)
 have HB:=Lib.hid hb
 have HE:=Lib.hid he
 have hsz:=hb.size
 clear hx hm hb he
 refine callsD_of_wpS Tryz.func171 rfl fun c₀ cs hu=>?_
 unfold kGave at hu
 apply wpS_seq
 apply wpS_region
 simp [wpOpsS,go_sem,recoverD,hu,Tryz.ntmps171,Exit.thenS]
 simp only [Array.replicate,List.replicate,List.setIfInBounds_toArray,List.set_cons_succ,List.set_cons_zero,List.append_toArray,List.cons_append,List.nil_append]
 refine wpS_of_wp ?_
 go_wp2_with fail
 refine HC.out.mono ?_
 rintro e w' ⟨rfl,hx',hm',hbs⟩
 have he':Blk w' (w.heap.size+2) 35 #[.int .i64 0]:=(hbs.block _ (by show w.heap.size+2 ≠ w.heap.size∧w.heap.size+2 ≠ w.heap.size+1;omega) HE.out.lt).trans HE.out
 have c6:w'.cell? ⟨w.heap.size+2,0,none⟩=some (.int .i64 0):=he'.cell 0
 have f6:=he'.frozen 0
 have HF:Hid (Bel w (w'.setCell ⟨w.heap.size+2,0,none⟩ (.int .i64 150))∧Blk (w'.setCell ⟨w.heap.size+2,0,none⟩ (.int .i64 150)) w.heap.size 64 (vcells noVal)∧Blk (w'.setCell ⟨w.heap.size+2,0,none⟩ (.int .i64 150)) (w.heap.size+1) 3 #[.int .i64 0]∧Blk (w'.setCell ⟨w.heap.size+2,0,none⟩ (.int .i64 150)) (w.heap.size+2) 35 #[.int .i64 150]):=by
  have hbw:Bel w w':=⟨hbs.os.trans HB.out.os,hbs.tape.trans HB.out.tape,hbs.output.trans HB.out.output,Nat.le_trans HB.out.size hbs.size,fun k hk=>(hbs.block k (by show k ≠ w.heap.size∧k ≠ w.heap.size+1;omega) (Nat.lt_of_lt_of_le hk HB.out.size)).trans (HB.out.block k hk)⟩
  exact Lib.hid ⟨hbw.setCell (by show w.heap.size≤w.heap.size+2;omega) _,hx'.far (by show w.heap.size ≠ w.heap.size+2;omega) _,hm'.far (by show w.heap.size+1 ≠ w.heap.size+2;omega) _,he'.set_ 0 _⟩
 clear hx' hm' hbs he'
 go_wp2
 clear HC hn ha HB HE
 obtain ⟨a1,a2,a3,a4⟩:=HF.out
 simp_all [bodyPostS,results,Tryz.results171]
theorem KS.gave {w V V':World} {x:Val} {r:List UInt8} (h:KS w x r V) {e:Ending} (hg:KGave (w.heap.size+3) w.heap.size V e V'):e = .panicked kGave∧Bel w V'∧(∃ y:Val,Blk V' w.heap.size 64 (vcells y))∧Blk V' (w.heap.size+1) 3 #[.int .i64 0]∧Blk V' (w.heap.size+2) 35 #[.int .i64 0]:=by
 obtain ⟨he,hy,hb⟩:=hg
 refine ⟨he,⟨hb.os.trans h.bel.os,hb.tape.trans h.bel.tape,hb.output.trans h.bel.output,Nat.le_trans h.bel.size hb.size,fun k hk=>(hb.block k (by show k ≠ w.heap.size+3∧k ≠ w.heap.size;omega) (Nat.lt_of_lt_of_le hk h.bel.size)).trans (h.bel.block k hk)⟩,hy,?_,?_⟩
 ·exact (hb.block _ (by show w.heap.size+1 ≠ w.heap.size+3∧w.heap.size+1 ≠ w.heap.size;omega) h.many.lt).trans h.many
 ·exact (hb.block _ (by show w.heap.size+2 ≠ w.heap.size+3∧w.heap.size+2 ≠ w.heap.size;omega) h.err.lt).trans h.err
theorem KS.read {w V V':World} {x y:Val} {r r':List UInt8} (h:KS w x r V) {e:Ending} (hg:KRead (w.heap.size+3) w.heap.size y r' V e V'):e = .returned (.tuple #[])∧KS w y r' V':=by
 obtain ⟨he,hx,ht,hb⟩:=hg
 refine ⟨he,⟨hb.os.trans h.bel.os,hb.tape.trans h.bel.tape,hb.output.trans h.bel.output,Nat.le_trans h.bel.size hb.size,fun k hk=>(hb.block k (by show k ≠ w.heap.size+3∧k ≠ w.heap.size;omega) (Nat.lt_of_lt_of_le hk h.bel.size)).trans (h.bel.block k hk)⟩,hx,?_,?_,ht⟩
 ·exact (hb.block _ (by show w.heap.size+1 ≠ w.heap.size+3∧w.heap.size+1 ≠ w.heap.size;omega) h.many.lt).trans h.many
 ·exact (hb.block _ (by show w.heap.size+2 ≠ w.heap.size+3∧w.heap.size+2 ≠ w.heap.size;omega) h.err.lt).trans h.err
theorem KS.below {w V V':World} {x:Val} {r:List UInt8} (h:KS w x r V) (hb:Bel V V'):KS w x r V':=⟨h.bel.then_ hb,h.val.below hb h.val.lt,h.many.below hb h.many.lt,h.err.below hb h.err.lt,h.tape.below hb h.tape.lt⟩
theorem KS.start (w:World) (s:List UInt8):KS w noVal s ((((w.alloc (.cells (vcells noVal) 64)).alloc (.cells #[.int .i64 0] 3)).alloc (.cells #[.int .i64 0] 35)).alloc (.cells #[strV s] 215)):=by
 refine ⟨(((((Bel.refl w).alloc _).alloc _).alloc _).alloc _),((((Blk.new w _ _).alloc _).alloc _).alloc _),?_,?_,?_⟩
 ·have:=((Blk.new (w.alloc (.cells (vcells noVal) 64)) 3 #[.int .i64 0]).alloc (.cells #[.int .i64 0] 35)).alloc (.cells #[strV s] 215)
  simpa using this
 ·have:=(Blk.new ((w.alloc (.cells (vcells noVal) 64)).alloc (.cells #[.int .i64 0] 3)) 35 #[.int .i64 0]).alloc (.cells #[strV s] 215)
  simpa using this
 ·have:=Blk.new (((w.alloc (.cells (vcells noVal) 64)).alloc (.cells #[.int .i64 0] 3)).alloc (.cells #[.int .i64 0] 35)) 215 #[strV s]
  simpa using this
theorem KS.kind {w V:World} {c:UInt8} {t s:List UInt8} (h:KS w noVal s V) (k:Int):KS w (kv k) t ((V.setCell ⟨w.heap.size+3,0,none⟩ (strV t)).setCell ⟨w.heap.size,0,none⟩ (.int .i64 k)):=by
 refine ⟨(h.bel.setCell (by show w.heap.size≤w.heap.size+3;omega) _).setCell (Nat.le_refl _) _,(h.val.far (by show w.heap.size ≠ w.heap.size+3;omega) _).set_ 0 _,(h.many.far (by show w.heap.size+1 ≠ w.heap.size+3;omega) _).far (by show w.heap.size+1 ≠ w.heap.size;omega) _,(h.err.far (by show w.heap.size+2 ≠ w.heap.size+3;omega) _).far (by show w.heap.size+2 ≠ w.heap.size;omega) _,(h.tape.set_ 0 _).far (by show w.heap.size+3 ≠ w.heap.size;omega) _⟩
theorem kkLookOk {t:Int} (h0 : 0≤t) (h4:t≤4) {b:Nat} {V:World} (hb:V.heap[b]? = some (.map kkMap 5)) :
 (Instr.lookup 181 (.map (some b)) (.int .i64 t) true).run Tryz.prog V = .ok (.tuple #[.agg #[.func (.func (klayF t)) #[] #[],.func (.func (kreadF t)) #[] #[]],.bool true]) V:=by
 have hc:t=0 ∨ t=1 ∨ t=2 ∨ t=3 ∨ t=4:=by omega
 rcases hc with rfl | rfl | rfl | rfl | rfl
 ·exact run_lookup_int_ok (k:=.i64) Tryz.underlying181 Tryz.underlying61 (i:=0) rfl hb
 ·exact run_lookup_int_ok (k:=.i64) Tryz.underlying181 Tryz.underlying61 (i:=1) rfl hb
 ·exact run_lookup_int_ok (k:=.i64) Tryz.underlying181 Tryz.underlying61 (i:=2) rfl hb
 ·exact run_lookup_int_ok (k:=.i64) Tryz.underlying181 Tryz.underlying61 (i:=3) rfl hb
 ·exact run_lookup_int_ok (k:=.i64) Tryz.underlying181 Tryz.underlying61 (i:=4) rfl hb
theorem kkLookNo {t:Int} (h : ¬ (0≤t∧t≤4)) {b:Nat} {V:World} (hb:V.heap[b]? = some (.map kkMap 5)) :
 (Instr.lookup 181 (.map (some b)) (.int .i64 t) true).run Tryz.prog V = .ok (.tuple #[.agg #[.nilFunc,.nilFunc],.bool false]) V:=by
 refine run_lookup_int_none (k:=.i64) Tryz.underlying181 Tryz.underlying61 ?_ ?_ hb
 ·have h0:(t == 0)=false:=by rw [beq_eq_false_iff_ne];omega
  have h1:(t == 1)=false:=by rw [beq_eq_false_iff_ne];omega
  have h2:(t == 2)=false:=by rw [beq_eq_false_iff_ne];omega
  have h3:(t == 3)=false:=by rw [beq_eq_false_iff_ne];omega
  have h4:(t == 4)=false:=by rw [beq_eq_false_iff_ne];omega
  simp [kkMap,kkE,Instr.findNow,Instr.sameNow,h0,h1,h2,h3,h4]
 ·kernel_rfl
set_option maxRecDepth 100000 in
set_option maxHeartbeats 8000000 in
theorem kyOne_any (s:List UInt8) (hs:s.length≤1000000) (w:World):Calls Tryz.prog 128 #[strV s] w fun e w'=>e = .returned (kOne (rdKeyV s))∧Bel w w':=by
 have hmf : ∀ (fn:Fn) (first cap:Array Value) (w:World),(Instr.makeFunc fn first cap).run Tryz.prog w = .ok (.func fn first cap) w:=fun _ _ _ _=>rfl
 have hsI:(s.length:Int)≤1000000:=by omega
 have HKS:=KS.start w s
 unfold vcells noVal at HKS
 unfold strV at HKS ⊢
 obtain ⟨W0,hW0⟩ : ∃ V,V=((((w.alloc (.cells #[.int .i64 0,.int .i64 0,.int .u64 0,.string ⟨#[]⟩] 64)).alloc (.cells #[.int .i64 0] 3)).alloc (.cells #[.int .i64 0] 35)).alloc (.cells #[.string ⟨s.toArray⟩] 215)):=⟨_,rfl⟩
 dsimp only at HKS
 rw [← hW0] at HKS
 have HK0:Hid (KS w noVal s W0):=Lib.hid HKS
 clear HKS
 cases s with
 | nil =>
   have HT:=Lib.hid (ktake_no (w.heap.size+3) [] 1 1 rfl (by simp) W0 HK0.out.tape)
   go_enter_defers Tryz.func128,Tryz.ntmps128
   go_wp2_with fail
   rw [← hW0]
   clear hW0
   refine HT.out.mono ?_
   rintro e w1 ⟨rfl,rfl⟩
   try go_wp2
   refine leaves_cons (f:=171) (args:=#[.pointer (some ⟨w.heap.size+1+1,0,none⟩),.func (.func 172) #[] #[.pointer (some ⟨w.heap.size,0,none⟩),.pointer (some ⟨w.heap.size+1,0,none⟩)]]) (by simp) (by simp [go_sem]) ?_
   refine (kcaught_gave HK0.out.bel HK0.out.val HK0.out.many HK0.out.err).mono ?_
   rintro e u' w'' ⟨rfl,rfl,hb,hx,hm,he⟩
   have x0:w''.cell? ⟨w.heap.size,0,none⟩=some (.int .i64 0):=hx.cell 0
   have x1:w''.cell? ⟨w.heap.size,1,none⟩=some (.int .i64 0):=hx.cell 1
   have x2:w''.cell? ⟨w.heap.size,2,none⟩=some (.int .u64 0):=hx.cell 2
   have x3:w''.cell? ⟨w.heap.size,3,none⟩=some (.string ⟨#[]⟩):=hx.cell 3
   have m0:w''.cell? ⟨w.heap.size+1,0,none⟩=some (.int .i64 0):=hm.cell 0
   have e0:w''.cell? ⟨w.heap.size+1+1,0,none⟩=some (.int .i64 150):=he.cell 0
   simp [Leaves,settle,results,Tryz.results128,go_sem,x0,x1,x2,x3,m0,e0]
   exact ⟨rfl,hb⟩
 | cons c t =>
   have HT:=Lib.hid (ktake_yes (w.heap.size+3) (c :: t) 1 1 rfl (by simp) W0 HK0.out.tape)
   have hd:(c :: t).drop 1=t:=rfl
   rw [hd] at HT
   have hix:=fun W=>index_bytes (s:=(c :: t).take 1) (k:=0) (c:=c) (by rfl) (i:=0) rfl W
   have hc255:(c.toNat:Int)≤255:=by have:=c.toNat_lt;omega
   have HK1:=Lib.hid (HK0.out.kind (c:=c) (t:=t) c.toNat)
   have q0:(W0.setCell ⟨w.heap.size+3,0,none⟩ (strV t)).cell? ⟨w.heap.size,0,none⟩=some (.int .i64 0):=(HK0.out.val.far (by show w.heap.size ≠ w.heap.size+3;omega) _).cell 0
   have q1:=(HK0.out.val.far (p:=⟨w.heap.size+3,0,none⟩) (by show w.heap.size ≠ w.heap.size+3;omega) (strV t)).frozen 0
   obtain ⟨S1,hS1⟩ : ∃ S1,(c :: t).take 1=S1:=⟨_,rfl⟩
   rw [hS1] at HT hix
   have ht:t.length≤1000000:=by simp at hs;omega
   have hsl:((c :: t).length:Int)=t.length+1:=by simp
   by_cases hc:c.toNat≤4
   case neg =>
    have hRn:rdKeyV (c :: t)=none:=by
     unfold rdKeyV
     dsimp only
     rw [if_neg (by omega),if_neg (by omega),if_neg (by omega),if_neg (by omega),if_neg (by omega)]
    rw [hRn]
    have HLO:=Lib.hid (fun (b:Nat) (V:World) (hb:V.heap[b]? = some (.map kkMap 5))=>kkLookNo (t:=(c.toNat:Int)) (by omega) hb)
    clear hRn hS1 hd
    generalize c.toNat=k at *
    go_enter_defers Tryz.func128,Tryz.ntmps128
    go_wp2_with fail
    rw [← hW0]
    clear hW0
    refine HT.out.mono ?_
    rintro e w1 ⟨rfl,hw1⟩
    rw [hw1] at q0 q1 HK1
    clear hw1 HT
    unfold strV
    go_wp2
    generalize w1.setCell ⟨w.heap.size,0,none⟩ (.int .i64 k)=W1 at *
    have hc0:W1.cell? ⟨w.heap.size,0,none⟩=some (.int .i64 k):=HK1.out.val.cell 0
    clear q0 q1
    have hS : ∀ V,Bel W1 V→(Bel W1 V∧V.cell? ⟨w.heap.size,0,none⟩=some (.int .i64 k)):=fun V h=>⟨h,h.c hc0⟩
    apply wp_cut2 (R:=fun bm bx V=>Bel W1 V∧True)
    case h =>
     refine wp_region_noPanic ?_
     refine wp_region_held_drew (S:=(fun V:World=>Bel W1 V∧V.cell? ⟨w.heap.size,0,none⟩=some (.int .i64 k))) (by kernel_rfl) ?_ (fun hHr1_0=>?_)
     ·(try dsimp only);(first | assumption | exact hS _ (Bel.refl W1).drew | exact hS _ hB2 | exact hS _ (Bel.alloc hB2 _) | exact hS _ (Bel.alloc (Bel.refl W1).drew _) | exact hS _ (Bel.setCell (Bel.setCell hB2 (Nat.le_refl _) _) (Nat.le_refl _) _))
     refine tk 1 ?_
     refine tk 2 ?_
     refine wpAnyH_ready (rs:=[0,7]) (by kernel_rfl) (by simp) ?_
     refine AllReadyH.cons (o:=_) rfl (fun K hK=>?_) (AllReadyH.cons (o:=_) rfl (fun K hK=>?_) (AllReadyH.nil))
     ·go_simp
      (go_at_call 126;refine (kkinds_any _).mono ?_;rintro e w2 ⟨bm,rfl,hm,hb2⟩;have hB2:Bel W1 w2:=Bel.then_ (Bel.refl W1).drew hb2)
      try (go_wp2_with fail)
      refine hK.out _ _ ?_ (fun hHr1_1=>?_)
      ·(try dsimp only);(first | assumption | exact hS _ (Bel.refl W1).drew | exact hS _ hB2 | exact hS _ (Bel.alloc hB2 _) | exact hS _ (Bel.alloc (Bel.refl W1).drew _) | exact hS _ (Bel.setCell (Bel.setCell hB2 (Nat.le_refl _) _) (Nat.le_refl _) _))
      clear hK K hHr1_0
      try simp only [tkp0,tkp1,tkp2,tkp3,tkp4,tkp5,tkp6,tkp7]
      refine wpAnyH_ready (rs:=[3,7]) (by kernel_rfl) (by simp) ?_
      refine AllReadyH.cons (o:=_) rfl (fun K hK=>?_) (AllReadyH.cons (o:=_) rfl (fun K hK=>?_) (AllReadyH.nil))
      ·go_simp
       ((have hlk:=HLO.out bm _ hm);go_simp)
       refine hK.out _ _ ?_ (fun hHr1_2=>?_)
       ·(try dsimp only);(first | assumption | exact hS _ (Bel.refl W1).drew | exact hS _ hB2 | exact hS _ (Bel.alloc hB2 _) | exact hS _ (Bel.alloc (Bel.refl W1).drew _) | exact hS _ (Bel.setCell (Bel.setCell hB2 (Nat.le_refl _) _) (Nat.le_refl _) _))
       clear hK K hHr1_1
       try simp only [tkp0,tkp1,tkp2,tkp3,tkp4,tkp5,tkp6,tkp7]
       refine tk 4 ?_
       refine tk 5 ?_
       refine tk 6 ?_
       refine rd1 7 (fun K hK=>?_)
       go_simp
       refine hK.out _ _ ?_ (fun hHr1_3=>?_)
       ·(try dsimp only);(first | assumption | exact hS _ (Bel.refl W1).drew | exact hS _ hB2 | exact hS _ (Bel.alloc hB2 _) | exact hS _ (Bel.alloc (Bel.refl W1).drew _) | exact hS _ (Bel.setCell (Bel.setCell hB2 (Nat.le_refl _) _) (Nat.le_refl _) _))
       clear hK K hHr1_2
       try simp only [tkp0,tkp1,tkp2,tkp3,tkp4,tkp5,tkp6,tkp7]
       refine rd1 8 (fun K hK=>?_)
       go_simp
       refine hK.out _ _ ?_ (fun hHr1_4=>?_)
       ·(try dsimp only);(first | assumption | exact hS _ (Bel.refl W1).drew | exact hS _ hB2 | exact hS _ (Bel.alloc hB2 _) | exact hS _ (Bel.alloc (Bel.refl W1).drew _) | exact hS _ (Bel.setCell (Bel.setCell hB2 (Nat.le_refl _) _) (Nat.le_refl _) _))
       clear hK K hHr1_3
       try simp only [tkp0,tkp1,tkp2,tkp3,tkp4,tkp5,tkp6,tkp7]
       refine tk 9 ?_
       refine wpAnyH_done (by kernel_rfl) ?_ _
       refine NoPanic.normal ?_
       (refine ⟨bm,w2.heap.size,rfl,?_,hHr1_4.1,trivial⟩;generalize w2.heap.size=bx;exact rfl)
      ·go_simp
       refine hK.out _ _ ?_ (fun hHr1_2=>?_)
       ·(try dsimp only);(first | assumption | exact hS _ (Bel.refl W1).drew | exact hS _ hB2 | exact hS _ (Bel.alloc hB2 _) | exact hS _ (Bel.alloc (Bel.refl W1).drew _) | exact hS _ (Bel.setCell (Bel.setCell hB2 (Nat.le_refl _) _) (Nat.le_refl _) _))
       clear hK K hHr1_1
       try simp only [tkp0,tkp1,tkp2,tkp3,tkp4,tkp5,tkp6,tkp7]
       refine rd1 3 (fun K hK=>?_)
       go_simp
       ((have hlk:=HLO.out bm _ (((Bel.refl w2).alloc (.cells #[.nilFunc,.nilFunc] 180)).deferred hm));go_simp)
       refine hK.out _ _ ?_ (fun hHr1_3=>?_)
       ·(try dsimp only);(first | assumption | exact hS _ (Bel.refl W1).drew | exact hS _ hB2 | exact hS _ (Bel.alloc hB2 _) | exact hS _ (Bel.alloc (Bel.refl W1).drew _) | exact hS _ (Bel.setCell (Bel.setCell hB2 (Nat.le_refl _) _) (Nat.le_refl _) _))
       clear hK K hHr1_2
       try simp only [tkp0,tkp1,tkp2,tkp3,tkp4,tkp5,tkp6,tkp7]
       refine tk 4 ?_
       refine tk 5 ?_
       refine tk 6 ?_
       refine rd1 8 (fun K hK=>?_)
       go_simp
       refine hK.out _ _ ?_ (fun hHr1_4=>?_)
       ·(try dsimp only);(first | assumption | exact hS _ (Bel.refl W1).drew | exact hS _ hB2 | exact hS _ (Bel.alloc hB2 _) | exact hS _ (Bel.alloc (Bel.refl W1).drew _) | exact hS _ (Bel.setCell (Bel.setCell hB2 (Nat.le_refl _) _) (Nat.le_refl _) _))
       clear hK K hHr1_3
       try simp only [tkp0,tkp1,tkp2,tkp3,tkp4,tkp5,tkp6,tkp7]
       refine tk 9 ?_
       refine wpAnyH_done (by kernel_rfl) ?_ _
       refine NoPanic.normal ?_
       (refine ⟨bm,w2.heap.size,rfl,?_,hHr1_4.1,trivial⟩;generalize w2.heap.size=bx;exact rfl)
     ·go_simp
      refine hK.out _ _ ?_ (fun hHr1_1=>?_)
      ·(try dsimp only);(first | assumption | exact hS _ (Bel.refl W1).drew | exact hS _ hB2 | exact hS _ (Bel.alloc hB2 _) | exact hS _ (Bel.alloc (Bel.refl W1).drew _) | exact hS _ (Bel.setCell (Bel.setCell hB2 (Nat.le_refl _) _) (Nat.le_refl _) _))
      clear hK K hHr1_0
      try simp only [tkp0,tkp1,tkp2,tkp3,tkp4,tkp5,tkp6,tkp7]
      refine rd1 0 (fun K hK=>?_)
      go_simp
      (go_at_call 126;refine (kkinds_any _).mono ?_;rintro e w2 ⟨bm,rfl,hm,hb2⟩;have hB2:Bel W1 w2:=Bel.then_ (Bel.alloc (Bel.refl W1).drew _) hb2;have z0:w2.cell? ⟨W1.heap.size,0,none⟩=some .nilFunc:=hb2.c (by go_simp);have z1:w2.cell? ⟨W1.heap.size,1,none⟩=some .nilFunc:=hb2.c (by go_simp);have y0:w2.frozen? ⟨W1.heap.size,0,none⟩=false:=(Below.frozen hb2 (by simp)).trans (by go_simp);have y1:w2.frozen? ⟨W1.heap.size,1,none⟩=false:=(Below.frozen hb2 (by simp)).trans (by go_simp))
      try (go_wp2_with fail)
      refine hK.out _ _ ?_ (fun hHr1_2=>?_)
      ·(try dsimp only);(first | assumption | exact hS _ (Bel.refl W1).drew | exact hS _ hB2 | exact hS _ (Bel.alloc hB2 _) | exact hS _ (Bel.alloc (Bel.refl W1).drew _) | exact hS _ (Bel.setCell (Bel.setCell hB2 (Nat.le_refl _) _) (Nat.le_refl _) _))
      clear hK K hHr1_1
      try simp only [tkp0,tkp1,tkp2,tkp3,tkp4,tkp5,tkp6,tkp7]
      refine rd1 3 (fun K hK=>?_)
      go_simp
      ((have hlk:=HLO.out bm _ hm);go_simp)
      refine hK.out _ _ ?_ (fun hHr1_3=>?_)
      ·(try dsimp only);(first | assumption | exact hS _ (Bel.refl W1).drew | exact hS _ hB2 | exact hS _ (Bel.alloc hB2 _) | exact hS _ (Bel.alloc (Bel.refl W1).drew _) | exact hS _ (Bel.setCell (Bel.setCell hB2 (Nat.le_refl _) _) (Nat.le_refl _) _))
      clear hK K hHr1_2
      try simp only [tkp0,tkp1,tkp2,tkp3,tkp4,tkp5,tkp6,tkp7]
      refine tk 4 ?_
      refine tk 5 ?_
      refine tk 6 ?_
      refine rd1 8 (fun K hK=>?_)
      go_simp
      refine hK.out _ _ ?_ (fun hHr1_4=>?_)
      ·(try dsimp only);(first | assumption | exact hS _ (Bel.refl W1).drew | exact hS _ hB2 | exact hS _ (Bel.alloc hB2 _) | exact hS _ (Bel.alloc (Bel.refl W1).drew _) | exact hS _ (Bel.setCell (Bel.setCell hB2 (Nat.le_refl _) _) (Nat.le_refl _) _))
      clear hK K hHr1_3
      try simp only [tkp0,tkp1,tkp2,tkp3,tkp4,tkp5,tkp6,tkp7]
      refine tk 9 ?_
      refine wpAnyH_done (by kernel_rfl) ?_ _
      refine NoPanic.normal ?_
      (refine ⟨bm,W1.heap.size,rfl,?_,hHr1_4.1,trivial⟩;generalize W1.heap.size=bx;exact rfl)
    case k =>
     rintro bm bx V ⟨hb,-⟩
     have HK2:=Lib.hid (HK1.out.below hb)
     clear hS hb hc0
     go_wp2_with (go_at_call 165;refine (kmust_no _).mono ?_;rintro e w' ⟨rfl,rfl⟩)
     refine leaves_cons (f:=171) (args:=#[.pointer (some ⟨w.heap.size+1+1,0,none⟩),.func (.func 172) #[] #[.pointer (some ⟨w.heap.size,0,none⟩),.pointer (some ⟨w.heap.size+1,0,none⟩)]]) (by simp) (by simp [go_sem]) ?_
     refine (kcaught_gave HK2.out.bel HK2.out.val HK2.out.many HK2.out.err).mono ?_
     rintro e u' w'' ⟨rfl,rfl,hb,hx,hm,he⟩
     have x0:w''.cell? ⟨w.heap.size,0,none⟩=some (.int .i64 0):=hx.cell 0
     have x1:w''.cell? ⟨w.heap.size,1,none⟩=some (.int .i64 0):=hx.cell 1
     have x2:w''.cell? ⟨w.heap.size,2,none⟩=some (.int .u64 0):=hx.cell 2
     have x3:w''.cell? ⟨w.heap.size,3,none⟩=some (.string ⟨#[]⟩):=hx.cell 3
     have m0:w''.cell? ⟨w.heap.size+1,0,none⟩=some (.int .i64 0):=hm.cell 0
     have e0:w''.cell? ⟨w.heap.size+1+1,0,none⟩=some (.int .i64 150):=he.cell 0
     simp [Leaves,settle,results,Tryz.results128,go_sem,x0,x1,x2,x3,m0,e0]
     exact ⟨rfl,hb⟩
   case pos =>
    have hRs:=fun V (h1:Blk V (w.heap.size+3) 215 #[strV t]) (h2:Blk V w.heap.size 64 (vcells (kv c.toNat)))=>kread_any (w.heap.size+3) w.heap.size c t ht hc V (by omega) h1 h2
    have HRS:=Lib.hid hRs
    have HLE:=Lib.hid (fun x m (h:rdKeyV (c :: t)=some (x,m))=>rdKeyV_le h)
    have HLO:=Lib.hid (fun (b:Nat) (V:World) (hb:V.heap[b]? = some (.map kkMap 5))=>kkLookOk (t:=(c.toNat:Int)) (by omega) (by omega) hb)
    have eg:=kreadF_enters (t:=(c.toNat:Int)) (by omega) (by omega)
    clear hRs hS1 hd ht
    generalize rdKeyV (c :: t)=R at *
    generalize kreadF (c.toNat:Int)=f at *
    generalize klayF (c.toNat:Int)=fl at *
    generalize c.toNat=k at *
    go_enter_defers Tryz.func128,Tryz.ntmps128
    go_wp2_with fail
    rw [← hW0]
    clear hW0
    refine HT.out.mono ?_
    rintro e w1 ⟨rfl,hw1⟩
    rw [hw1] at q0 q1 HK1
    clear hw1 HT
    unfold strV
    go_wp2
    generalize w1.setCell ⟨w.heap.size,0,none⟩ (.int .i64 k)=W1 at *
    have hc0:W1.cell? ⟨w.heap.size,0,none⟩=some (.int .i64 k):=HK1.out.val.cell 0
    clear q0 q1
    have hS : ∀ V,Bel W1 V→(Bel W1 V∧V.cell? ⟨w.heap.size,0,none⟩=some (.int .i64 k)):=fun V h=>⟨h,h.c hc0⟩
    apply wp_cut2 (R:=fun bm bx V=>Bel W1 V∧V.cell? ⟨bx,1,none⟩=some (.func (.func f) #[] #[]))
    case h =>
     refine wp_region_noPanic ?_
     refine wp_region_held_drew (S:=(fun V:World=>Bel W1 V∧V.cell? ⟨w.heap.size,0,none⟩=some (.int .i64 k))) (by kernel_rfl) ?_ (fun hHr2_0=>?_)
     ·(try dsimp only);(first | assumption | exact hS _ (Bel.refl W1).drew | exact hS _ hB2 | exact hS _ (Bel.alloc hB2 _) | exact hS _ (Bel.alloc (Bel.refl W1).drew _) | exact hS _ (Bel.setCell (Bel.setCell hB2 (Nat.le_refl _) _) (Nat.le_refl _) _))
     refine tk 1 ?_
     refine tk 2 ?_
     refine wpAnyH_ready (rs:=[0,7]) (by kernel_rfl) (by simp) ?_
     refine AllReadyH.cons (o:=_) rfl (fun K hK=>?_) (AllReadyH.cons (o:=_) rfl (fun K hK=>?_) (AllReadyH.nil))
     ·go_simp
      (go_at_call 126;refine (kkinds_any _).mono ?_;rintro e w2 ⟨bm,rfl,hm,hb2⟩;have hB2:Bel W1 w2:=Bel.then_ (Bel.refl W1).drew hb2)
      try (go_wp2_with fail)
      refine hK.out _ _ ?_ (fun hHr2_1=>?_)
      ·(try dsimp only);(first | assumption | exact hS _ (Bel.refl W1).drew | exact hS _ hB2 | exact hS _ (Bel.alloc hB2 _) | exact hS _ (Bel.alloc (Bel.refl W1).drew _) | exact hS _ (Bel.setCell (Bel.setCell hB2 (Nat.le_refl _) _) (Nat.le_refl _) _))
      clear hK K hHr2_0
      try simp only [tkp0,tkp1,tkp2,tkp3,tkp4,tkp5,tkp6,tkp7]
      refine wpAnyH_ready (rs:=[3,7]) (by kernel_rfl) (by simp) ?_
      refine AllReadyH.cons (o:=_) rfl (fun K hK=>?_) (AllReadyH.cons (o:=_) rfl (fun K hK=>?_) (AllReadyH.nil))
      ·go_simp
       ((have hlk:=HLO.out bm _ hm);go_simp)
       refine hK.out _ _ ?_ (fun hHr2_2=>?_)
       ·(try dsimp only);(first | assumption | exact hS _ (Bel.refl W1).drew | exact hS _ hB2 | exact hS _ (Bel.alloc hB2 _) | exact hS _ (Bel.alloc (Bel.refl W1).drew _) | exact hS _ (Bel.setCell (Bel.setCell hB2 (Nat.le_refl _) _) (Nat.le_refl _) _))
       clear hK K hHr2_1
       try simp only [tkp0,tkp1,tkp2,tkp3,tkp4,tkp5,tkp6,tkp7]
       refine tk 4 ?_
       refine tk 5 ?_
       refine tk 6 ?_
       refine rd1 7 (fun K hK=>?_)
       go_simp
       refine hK.out _ _ ?_ (fun hHr2_3=>?_)
       ·(try dsimp only);(first | assumption | exact hS _ (Bel.refl W1).drew | exact hS _ hB2 | exact hS _ (Bel.alloc hB2 _) | exact hS _ (Bel.alloc (Bel.refl W1).drew _) | exact hS _ (Bel.setCell (Bel.setCell hB2 (Nat.le_refl _) _) (Nat.le_refl _) _))
       clear hK K hHr2_2
       try simp only [tkp0,tkp1,tkp2,tkp3,tkp4,tkp5,tkp6,tkp7]
       refine rd1 8 (fun K hK=>?_)
       go_simp
       refine hK.out _ _ ?_ (fun hHr2_4=>?_)
       ·(try dsimp only);(first | assumption | exact hS _ (Bel.refl W1).drew | exact hS _ hB2 | exact hS _ (Bel.alloc hB2 _) | exact hS _ (Bel.alloc (Bel.refl W1).drew _) | exact hS _ (Bel.setCell (Bel.setCell hB2 (Nat.le_refl _) _) (Nat.le_refl _) _))
       clear hK K hHr2_3
       try simp only [tkp0,tkp1,tkp2,tkp3,tkp4,tkp5,tkp6,tkp7]
       refine tk 9 ?_
       refine wpAnyH_done (by kernel_rfl) ?_ _
       refine NoPanic.normal ?_
       (refine ⟨bm,w2.heap.size,rfl,?_,hHr2_4.1,(by go_simp)⟩;generalize w2.heap.size=bx;exact rfl)
      ·go_simp
       refine hK.out _ _ ?_ (fun hHr2_2=>?_)
       ·(try dsimp only);(first | assumption | exact hS _ (Bel.refl W1).drew | exact hS _ hB2 | exact hS _ (Bel.alloc hB2 _) | exact hS _ (Bel.alloc (Bel.refl W1).drew _) | exact hS _ (Bel.setCell (Bel.setCell hB2 (Nat.le_refl _) _) (Nat.le_refl _) _))
       clear hK K hHr2_1
       try simp only [tkp0,tkp1,tkp2,tkp3,tkp4,tkp5,tkp6,tkp7]
       refine rd1 3 (fun K hK=>?_)
       go_simp
       ((have hlk:=HLO.out bm _ (((Bel.refl w2).alloc (.cells #[.nilFunc,.nilFunc] 180)).deferred hm));go_simp)
       refine hK.out _ _ ?_ (fun hHr2_3=>?_)
       ·(try dsimp only);(first | assumption | exact hS _ (Bel.refl W1).drew | exact hS _ hB2 | exact hS _ (Bel.alloc hB2 _) | exact hS _ (Bel.alloc (Bel.refl W1).drew _) | exact hS _ (Bel.setCell (Bel.setCell hB2 (Nat.le_refl _) _) (Nat.le_refl _) _))
       clear hK K hHr2_2
       try simp only [tkp0,tkp1,tkp2,tkp3,tkp4,tkp5,tkp6,tkp7]
       refine tk 4 ?_
       refine tk 5 ?_
       refine tk 6 ?_
       refine rd1 8 (fun K hK=>?_)
       go_simp
       refine hK.out _ _ ?_ (fun hHr2_4=>?_)
       ·(try dsimp only);(first | assumption | exact hS _ (Bel.refl W1).drew | exact hS _ hB2 | exact hS _ (Bel.alloc hB2 _) | exact hS _ (Bel.alloc (Bel.refl W1).drew _) | exact hS _ (Bel.setCell (Bel.setCell hB2 (Nat.le_refl _) _) (Nat.le_refl _) _))
       clear hK K hHr2_3
       try simp only [tkp0,tkp1,tkp2,tkp3,tkp4,tkp5,tkp6,tkp7]
       refine tk 9 ?_
       refine wpAnyH_done (by kernel_rfl) ?_ _
       refine NoPanic.normal ?_
       (refine ⟨bm,w2.heap.size,rfl,?_,hHr2_4.1,(by go_simp)⟩;generalize w2.heap.size=bx;exact rfl)
     ·go_simp
      refine hK.out _ _ ?_ (fun hHr2_1=>?_)
      ·(try dsimp only);(first | assumption | exact hS _ (Bel.refl W1).drew | exact hS _ hB2 | exact hS _ (Bel.alloc hB2 _) | exact hS _ (Bel.alloc (Bel.refl W1).drew _) | exact hS _ (Bel.setCell (Bel.setCell hB2 (Nat.le_refl _) _) (Nat.le_refl _) _))
      clear hK K hHr2_0
      try simp only [tkp0,tkp1,tkp2,tkp3,tkp4,tkp5,tkp6,tkp7]
      refine rd1 0 (fun K hK=>?_)
      go_simp
      (go_at_call 126;refine (kkinds_any _).mono ?_;rintro e w2 ⟨bm,rfl,hm,hb2⟩;have hB2:Bel W1 w2:=Bel.then_ (Bel.alloc (Bel.refl W1).drew _) hb2;have z0:w2.cell? ⟨W1.heap.size,0,none⟩=some .nilFunc:=hb2.c (by go_simp);have z1:w2.cell? ⟨W1.heap.size,1,none⟩=some .nilFunc:=hb2.c (by go_simp);have y0:w2.frozen? ⟨W1.heap.size,0,none⟩=false:=(Below.frozen hb2 (by simp)).trans (by go_simp);have y1:w2.frozen? ⟨W1.heap.size,1,none⟩=false:=(Below.frozen hb2 (by simp)).trans (by go_simp))
      try (go_wp2_with fail)
      refine hK.out _ _ ?_ (fun hHr2_2=>?_)
      ·(try dsimp only);(first | assumption | exact hS _ (Bel.refl W1).drew | exact hS _ hB2 | exact hS _ (Bel.alloc hB2 _) | exact hS _ (Bel.alloc (Bel.refl W1).drew _) | exact hS _ (Bel.setCell (Bel.setCell hB2 (Nat.le_refl _) _) (Nat.le_refl _) _))
      clear hK K hHr2_1
      try simp only [tkp0,tkp1,tkp2,tkp3,tkp4,tkp5,tkp6,tkp7]
      refine rd1 3 (fun K hK=>?_)
      go_simp
      ((have hlk:=HLO.out bm _ hm);go_simp)
      refine hK.out _ _ ?_ (fun hHr2_3=>?_)
      ·(try dsimp only);(first | assumption | exact hS _ (Bel.refl W1).drew | exact hS _ hB2 | exact hS _ (Bel.alloc hB2 _) | exact hS _ (Bel.alloc (Bel.refl W1).drew _) | exact hS _ (Bel.setCell (Bel.setCell hB2 (Nat.le_refl _) _) (Nat.le_refl _) _))
      clear hK K hHr2_2
      try simp only [tkp0,tkp1,tkp2,tkp3,tkp4,tkp5,tkp6,tkp7]
      refine tk 4 ?_
      refine tk 5 ?_
      refine tk 6 ?_
      refine rd1 8 (fun K hK=>?_)
      go_simp
      refine hK.out _ _ ?_ (fun hHr2_4=>?_)
      ·(try dsimp only);(first | assumption | exact hS _ (Bel.refl W1).drew | exact hS _ hB2 | exact hS _ (Bel.alloc hB2 _) | exact hS _ (Bel.alloc (Bel.refl W1).drew _) | exact hS _ (Bel.setCell (Bel.setCell hB2 (Nat.le_refl _) _) (Nat.le_refl _) _))
      clear hK K hHr2_3
      try simp only [tkp0,tkp1,tkp2,tkp3,tkp4,tkp5,tkp6,tkp7]
      refine tk 9 ?_
      refine wpAnyH_done (by kernel_rfl) ?_ _
      refine NoPanic.normal ?_
      (refine ⟨bm,W1.heap.size,rfl,?_,hHr2_4.1,(by go_simp)⟩;generalize W1.heap.size=bx;exact rfl)
    case k =>
     rintro bm bx V ⟨hb,hk0⟩
     have HK2:=Lib.hid (HK1.out.below hb)
     have HR2:=Lib.hid (HRS.out V HK2.out.tape HK2.out.val)
     clear hS hb hc0
     cases R with
     | none =>
       unfold KRest at HR2
       dsimp only at HR2
       go_wp2_with (first | (go_at_call 165;refine (kmust_yes _).mono ?_;rintro e w' ⟨rfl,rfl⟩) | (go_at_fn f;refine HR2.out.mono ?_;intro e w4 hgv;obtain ⟨rfl,gb,⟨gx,gv⟩,gm,ge⟩:=HK2.out.gave hgv))
       refine leaves_cons (f:=171) (args:=#[.pointer (some ⟨w.heap.size+1+1,0,none⟩),.func (.func 172) #[] #[.pointer (some ⟨w.heap.size,0,none⟩),.pointer (some ⟨w.heap.size+1,0,none⟩)]]) (by simp) (by simp [go_sem]) ?_
       refine (kcaught_gave gb gv gm ge).mono ?_
       rintro e u' w'' ⟨rfl,rfl,hb,hx,hm,he⟩
       have x0:w''.cell? ⟨w.heap.size,0,none⟩=some (.int .i64 0):=hx.cell 0
       have x1:w''.cell? ⟨w.heap.size,1,none⟩=some (.int .i64 0):=hx.cell 1
       have x2:w''.cell? ⟨w.heap.size,2,none⟩=some (.int .u64 0):=hx.cell 2
       have x3:w''.cell? ⟨w.heap.size,3,none⟩=some (.string ⟨#[]⟩):=hx.cell 3
       have m0:w''.cell? ⟨w.heap.size+1,0,none⟩=some (.int .i64 0):=hm.cell 0
       have e0:w''.cell? ⟨w.heap.size+1+1,0,none⟩=some (.int .i64 150):=he.cell 0
       simp [Leaves,settle,results,Tryz.results128,go_sem,x0,x1,x2,x3,m0,e0]
       exact ⟨rfl,hb⟩
     | some q =>
       obtain ⟨x,m⟩:=q
       unfold KRest at HR2
       dsimp only at HR2
       have hml:=HLE.out x m rfl
       have hrl:((((c :: t).length:Nat):Int) - (((c :: t).drop m).length:Nat))=m:=by rw [List.length_drop];omega
       have hmI:(m:Int)≤1000001:=by have:=hml.2;simp at this;omega
       generalize (c :: t).drop m=r at *
       go_wp2_with (first | (go_at_call 165;refine (kmust_yes _).mono ?_;rintro e w' ⟨rfl,rfl⟩) | (go_at_fn f;refine HR2.out.mono ?_;intro e w4 hgv;obtain ⟨rfl,HK4⟩:=HK2.out.read hgv))
       obtain ⟨xk,xn,xu,xb⟩:=x
       have x0:w4.cell? ⟨w.heap.size,0,none⟩=some (.int .i64 xk):=HK4.val.cell 0
       have x1:w4.cell? ⟨w.heap.size,1,none⟩=some (.int .i64 xn):=HK4.val.cell 1
       have x2:w4.cell? ⟨w.heap.size,2,none⟩=some (.int .u64 xu):=HK4.val.cell 2
       have x3:w4.cell? ⟨w.heap.size,3,none⟩=some (.string xb):=HK4.val.cell 3
       have y0:=HK4.val.frozen 0
       have y1:=HK4.val.frozen 1
       have y2:=HK4.val.frozen 2
       have y3:=HK4.val.frozen 3
       have m0:w4.cell? ⟨w.heap.size+1,0,none⟩=some (.int .i64 0):=HK4.many.cell 0
       have z0:=HK4.many.frozen 0
       have e0:w4.cell? ⟨w.heap.size+1+1,0,none⟩=some (.int .i64 0):=HK4.err.cell 0
       have z1:w4.frozen? ⟨w.heap.size+1+1,0,none⟩=false:=HK4.err.frozen 0
       have t0:w4.cell? ⟨w.heap.size+1+1+1,0,none⟩=some (.string ⟨r.toArray⟩):=HK4.tape.cell 0
       have HFIN:Hid (Bel w w4):=Lib.hid HK4.bel
       rw [hsl] at hrl
       clear HK4 HK2 HK1 HR2 HRS HLE HLO
       go_region
       obtain ⟨Wf,hWf⟩ : ∃ V,V=((((((w4.setCell ⟨w.heap.size,0,none⟩ (.int .i64 xk)).setCell ⟨w.heap.size,1,none⟩ (.int .i64 xn)).setCell ⟨w.heap.size,2,none⟩ (.int .u64 xu)).setCell ⟨w.heap.size,3,none⟩ (.string xb)).setCell ⟨w.heap.size+1,0,none⟩ (.int .i64 m)).setCell ⟨w.heap.size+1+1,0,none⟩ (.int .i64 0)).drew:=⟨_,rfl⟩
       rw [← hWf]
       have r0:Wf.cell? ⟨w.heap.size,0,none⟩=some (.int .i64 xk):=by rw [hWf];go_simp
       have r1:Wf.cell? ⟨w.heap.size,1,none⟩=some (.int .i64 xn):=by rw [hWf];go_simp
       have r2:Wf.cell? ⟨w.heap.size,2,none⟩=some (.int .u64 xu):=by rw [hWf];go_simp
       have r3:Wf.cell? ⟨w.heap.size,3,none⟩=some (.string xb):=by rw [hWf];go_simp
       have r4:Wf.cell? ⟨w.heap.size+1,0,none⟩=some (.int .i64 m):=by rw [hWf];go_simp
       have r5:Wf.cell? ⟨w.heap.size+1+1,0,none⟩=some (.int .i64 0):=by rw [hWf];go_simp
       have hbf:Hid (Bel w Wf):=by
        rw [hWf]
        have:=((((((HFIN.out.setCell (p:=⟨w.heap.size,0,none⟩) (Nat.le_refl _) (.int .i64 xk)).setCell (p:=⟨w.heap.size,1,none⟩) (Nat.le_refl _) (.int .i64 xn)).setCell (p:=⟨w.heap.size,2,none⟩) (Nat.le_refl _) (.int .u64 xu)).setCell (p:=⟨w.heap.size,3,none⟩) (Nat.le_refl _) (.string xb)).setCell (p:=⟨w.heap.size+1,0,none⟩) (by show w.heap.size≤w.heap.size+1;omega) (.int .i64 m)).setCell (p:=⟨w.heap.size+1+1,0,none⟩) (by show w.heap.size≤w.heap.size+1+1;omega) (.int .i64 0))
        exact Lib.hid this.drew
       clear hWf x0 x1 x2 x3 y0 y1 y2 y3 m0 z0 e0 z1 t0 HFIN hk0
       go_wp2
       refine leaves_cons (f:=171) (args:=#[.pointer (some ⟨w.heap.size+1+1,0,none⟩),.func (.func 172) #[] #[.pointer (some ⟨w.heap.size,0,none⟩),.pointer (some ⟨w.heap.size+1,0,none⟩)]]) (by simp) (by simp [go_sem]) ?_
       refine (kcaught_idle _ _ _).mono ?_
       rintro e u' w'' ⟨rfl,rfl,rfl⟩
       simp [Leaves,settle,results,Tryz.results128,go_sem,r0,r1,r2,r3,r4,r5]
       exact ⟨rfl,hbf.out⟩
end
end Go.Proofs.YtnajjhgbombboaaGreatDoor
