/-
  Texts behind the statement: part 47.
-/
import Derived.Test.YtnajjhgbombboaaGreatDoorP16
import Derived.Test.YtnajjhgbombboaaGreatDoorP46
set_option linter.unusedVariables false
set_option linter.unusedSimpArgs false
namespace Go.Proofs.YtnajjhgbombboaaGreatDoor
section
open Go.RowKit Go.Shelf Go.Lib
attribute [local go_sem] Oper.semAt_some
theorem rdG_fuel : ∀ (f:Nat) (acc t:List UInt8),t.length≤f→rdG (f+1) acc t=rdG f acc t:=by
 intro f
 induction f with
 | zero =>
   intro acc t h
   rw [rdG_none (by omega),rdG_none (by omega)]
 | succ f ih =>
   intro acc t h
   have hr:=fun (x:List UInt8) (h9 : 9≤t.length)=>ih x (t.drop 9) (by rw [List.length_drop];omega)
   by_cases h9:t.length<9
   ·rw [rdG_none h9,rdG_none h9]
   ·unfold rdG
    rw [if_neg h9,if_neg h9,hr _ (by omega)]
theorem two_boxes {w V:World} {a0 a1 a2 a3 c0 c1 c2 c3:Value} (h:Bel ((w.alloc (.cells #[a0,a1,a2,a3] 64)).alloc (.cells #[c0,c1,c2,c3] 64)) V) :
  Bel w V∧(V.cell? ⟨w.heap.size,0,none⟩=some a0∧V.cell? ⟨w.heap.size,1,none⟩=some a1∧V.cell? ⟨w.heap.size,2,none⟩=some a2∧V.cell? ⟨w.heap.size,3,none⟩=some a3)∧(∀ i,V.frozen? ⟨w.heap.size,i,none⟩=false) ∧
   (V.cell? ⟨w.heap.size+1,0,none⟩=some c0∧V.cell? ⟨w.heap.size+1,1,none⟩=some c1∧V.cell? ⟨w.heap.size+1,2,none⟩=some c2∧V.cell? ⟨w.heap.size+1,3,none⟩=some c3)∧(∀ i,V.frozen? ⟨w.heap.size+1,i,none⟩=false):=by
 have k0:Blk V w.heap.size 64 #[a0,a1,a2,a3]:=((Blk.new w 64 #[a0,a1,a2,a3]).alloc _).below h (by simp;omega)
 have k1:Blk V (w.heap.size+1) 64 #[c0,c1,c2,c3]:=(by have:=Blk.new (w.alloc (.cells #[a0,a1,a2,a3] 64)) 64 #[c0,c1,c2,c3];rw [World.size_alloc] at this;exact this:Blk _ (w.heap.size+1) 64 #[c0,c1,c2,c3]).below h (by simp)
 exact ⟨(((Bel.refl w).alloc _).alloc _).then_ h,⟨k0.cell 0,k0.cell 1,k0.cell 2,k0.cell 3⟩,fun i=>k0.frozen i,⟨k1.cell 0,k1.cell 1,k1.cell 2,k1.cell 3⟩,fun i=>k1.frozen i⟩
theorem bel_set4 {w V:World} (h:Bel w V) (a b c d:Value):Bel w ((((V.setCell ⟨w.heap.size,0,none⟩ a).setCell ⟨w.heap.size,1,none⟩ b).setCell ⟨w.heap.size,2,none⟩ c).setCell ⟨w.heap.size,3,none⟩ d) :=
 (((h.setCell (Nat.le_refl _) _).setCell (Nat.le_refl _) _).setCell (Nat.le_refl _) _).setCell (Nat.le_refl _) _
theorem krRead_nil (w:World):Calls Tryz.prog 121 #[strV []] w fun e w'=>e = .returned (krGive none)∧Bel w w':=by
 unfold strV
 go_enter Tryz.func121,Tryz.ntmps121
 go_wp2
 refine bodyPost_ret (v:=.tuple #[noVal.v,.int .i64 0]) (by simp [results,Tryz.results121,go_sem,noVal,Val.v]) rfl ⟨rfl,by (repeat (first | exact Below.refl _ _ | assumption | exact Bel.refl _ | refine Bel.alloc ?_ _ | refine Bel.drew ?_ | refine Bel.drewN ?_ _ | refine Bel.then_ ?_ (by assumption) | refine Bel.setCell ?_ (by first | (simp;done) | (simp;omega)) _))⟩
set_option maxRecDepth 100000 in
set_option maxHeartbeats 2000000 in
theorem krRead_zero {s t:List UInt8} {c:UInt8} (hst:s=c :: t) (hk:c.toNat=0) (hs:s.length≤2000) (w:World):Calls Tryz.prog 121 #[strV s] w fun e w'=>e = .returned (krGive (some (noVal,1)))∧Bel w w':=by
 have hsI:(s.length:Int)≤2000:=by omega
 have hl:s.length=t.length+1:=by rw [hst];rfl
 have hix:=fun W=>index_bytes (s:=s) (k:=0) (c:=c) (by rw [hst];rfl) (i:=0) rfl W
 have ht:t=s.drop 1:=by rw [hst];rfl
 rw [hk] at hix
 clear hst
 have h0:(0:Int)<s.length:=by omega
 have h1:(1:Int)≤s.length:=by omega
 have hne:((s.length:Int) == 0)=false:=by rw [beq_eq_false_iff_ne];omega
 unfold strV
 clear ht hk
 go_enter Tryz.func121,Tryz.ntmps121
 go_wp2
 refine bodyPost_ret (v:=.tuple #[noVal.v,.int .i64 1]) (by simp [results,Tryz.results121,go_sem,noVal,Val.v]) rfl ⟨rfl,by (repeat (first | exact Below.refl _ _ | assumption | exact Bel.refl _ | refine Bel.alloc ?_ _ | refine Bel.drew ?_ | refine Bel.drewN ?_ _ | refine Bel.then_ ?_ (by assumption) | refine Bel.setCell ?_ (by first | (simp;done) | (simp;omega)) _))⟩
set_option maxRecDepth 100000 in
set_option maxHeartbeats 2000000 in
theorem krRead_int_no {s t:List UInt8} {c:UInt8} (hst:s=c :: t) (hk:c.toNat=1) (hs:s.length≤2000) (h:t.length<8) (w:World):Calls Tryz.prog 121 #[strV s] w fun e w'=>e = .returned (krGive (none))∧Bel w w':=by
 have hsI:(s.length:Int)≤2000:=by omega
 have hl:s.length=t.length+1:=by rw [hst];rfl
 have hix:=fun W=>index_bytes (s:=s) (k:=0) (c:=c) (by rw [hst];rfl) (i:=0) rfl W
 have ht:t=s.drop 1:=by rw [hst];rfl
 rw [hk] at hix
 clear hst
 have h0:(0:Int)<s.length:=by omega
 have h1:(1:Int)≤s.length:=by omega
 have hne:((s.length:Int) == 0)=false:=by rw [beq_eq_false_iff_ne];omega
 unfold strV
 have h9:(s.length:Int)<9:=by omega
 clear ht hk
 go_enter Tryz.func121,Tryz.ntmps121
 go_wp2
 refine bodyPost_ret (v:=.tuple #[noVal.v,.int .i64 0]) (by simp [results,Tryz.results121,go_sem,noVal,Val.v]) rfl ⟨rfl,by (repeat (first | exact Below.refl _ _ | assumption | exact Bel.refl _ | refine Bel.alloc ?_ _ | refine Bel.drew ?_ | refine Bel.drewN ?_ _ | refine Bel.then_ ?_ (by assumption) | refine Bel.setCell ?_ (by first | (simp;done) | (simp;omega)) _))⟩
set_option maxRecDepth 100000 in
set_option maxHeartbeats 2000000 in
theorem krRead_int {s t:List UInt8} {c:UInt8} (hst:s=c :: t) (hk:c.toNat=1) (hs:s.length≤2000) (h : 8≤t.length) (w:World):Calls Tryz.prog 121 #[strV s] w fun e w'=>e = .returned (krGive (some (⟨1,sgn63 (numN (t.take 8)),0,⟨#[]⟩⟩,9)))∧Bel w w':=by
 have hsI:(s.length:Int)≤2000:=by omega
 have hl:s.length=t.length+1:=by rw [hst];rfl
 have hix:=fun W=>index_bytes (s:=s) (k:=0) (c:=c) (by rw [hst];rfl) (i:=0) rfl W
 have ht:t=s.drop 1:=by rw [hst];rfl
 rw [hk] at hix
 clear hst
 have h0:(0:Int)<s.length:=by omega
 have h1:(1:Int)≤s.length:=by omega
 have hne:((s.length:Int) == 0)=false:=by rw [beq_eq_false_iff_ne];omega
 unfold strV
 have h9:(9:Int)≤s.length:=by omega
 have hex:(⟨s.toArray⟩:ByteArray).extract 1 9=⟨(t.take 8).toArray⟩:=by rw [mid_bytes,ht]
 have hl8:(t.take 8).length=8:=by rw [List.length_take];omega
 have co:=fun W=>conv_bytes (t.take 8) W
 have R8:=fun (W:World) (b c:Nat) (hb:W.heap.size=b)=>Lib.hid (hb ▸ r2ReadFixed_any (t.take 8) (some ⟨W.heap.size,0,none⟩) c (by omega) (by omega) (Lib.bytesWorld W 5 ⟨(t.take 8).toArray⟩) (bytes_reads _ W):Calls Tryz.prog 139 #[.slice (some ⟨b,0,none⟩) (t.take 8).length c] (Lib.bytesWorld W 5 ⟨(t.take 8).toArray⟩) fun e w'=>e = .returned (.tuple #[.int .u64 (numN (t.take 8)),.int .i64 0])∧Lib.bytesWorld W 5 ⟨(t.take 8).toArray⟩=w')
 have B8:=fun W=>Lib.hid (bytes_bel (t.take 8) W)
 have hU:numN (t.take 8)<2 ^ 64:=by have:=numN_lt (t.take 8);rw [hl8] at this;exact this
 have hx:=xor_back hU
 rw [hl8] at R8 co
 clear ht h hl hl8 hk hU
 unfold sgn63
 generalize t.take 8=t8 at *
 generalize numN t8=U at *
 go_enter Tryz.func121,Tryz.ntmps121
 go_wp2_with fail
 refine (R8 _ _ _ (by simp)).out.mono ?_
 rintro e w1 ⟨rfl,hW⟩
 have hb1:=(B8 ((w.alloc (.cells #[.int .i64 0,.int .i64 0,.int .u64 0,.string ⟨#[]⟩] 64)).alloc (.cells #[.int .i64 1,.int .i64 0,.int .u64 0,.string ⟨#[]⟩] 64))).out
 rw [hW] at hb1
 obtain ⟨hbw,x,f0,y,f1⟩:=two_boxes hb1
 obtain ⟨x0,x1,x2,x3⟩:=x
 obtain ⟨y0,y1,y2,y3⟩:=y
 have hsw:=hbw.size
 clear hb1 hW co B8 R8
 go_wp2
 refine bodyPost_ret (v:=.tuple #[.agg #[.int .i64 1,.int .i64 ((U:Int) - 9223372036854775808),.int .u64 0,.string ⟨#[]⟩],.int .i64 9]) (by simp [results,Tryz.results121,go_sem,noVal,Val.v,x0,x1,x2,x3,f0,y0,y1,y2,y3,f1]) rfl ⟨rfl,bel_set4 (hbw.setCell (Nat.le_succ _) _) _ _ _ _⟩
set_option maxRecDepth 100000 in
set_option maxHeartbeats 2000000 in
theorem krRead_num_no {s t:List UInt8} {c:UInt8} (hst:s=c :: t) (hk:c.toNat=2) (hs:s.length≤2000) (hrd:rdNum t=none) (w:World):Calls Tryz.prog 121 #[strV s] w fun e w'=>e = .returned (krGive (none))∧Bel w w':=by
 have hsI:(s.length:Int)≤2000:=by omega
 have hl:s.length=t.length+1:=by rw [hst];rfl
 have hix:=fun W=>index_bytes (s:=s) (k:=0) (c:=c) (by rw [hst];rfl) (i:=0) rfl W
 have ht:t=s.drop 1:=by rw [hst];rfl
 rw [hk] at hix
 clear hst
 have h0:(0:Int)<s.length:=by omega
 have h1:(1:Int)≤s.length:=by omega
 have hne:((s.length:Int) == 0)=false:=by rw [beq_eq_false_iff_ne];omega
 unfold strV
 have hex:(⟨s.toArray⟩:ByteArray).extract 1 s.length=⟨t.toArray⟩:=by rw [drop_bytes,ht]
 have co:=fun W=>conv_bytes t W
 have RN:=fun (W:World) (b c:Nat) (hb:W.heap.size=b) (hc:grownCap W t.length 0 5=c)=>(by subst hb hc;exact Lib.hid (r2ReadNumber_any _ t (by omega) _ (conv_at t (by omega) W)):Hid (Calls Tryz.prog 77 #[.slice (some ⟨b,0,none⟩) t.length c] (Lib.bytesWorld W 5 ⟨t.toArray⟩) fun e w'=>e = .returned (numV (rdNum t))∧Lib.bytesWorld W 5 ⟨t.toArray⟩=w'))
 have B8:=fun W=>Lib.hid (bytes_bel t W)
 have hg : ∀ W,∃ c,grownCap W t.length 0 5=c:=fun W=>⟨_,rfl⟩
 rw [hrd] at RN
 unfold numV at RN
 obtain ⟨cp,hcp⟩:=hg ((w.alloc (.cells #[.int .i64 0,.int .i64 0,.int .u64 0,.string ⟨#[]⟩] 64)).alloc (.cells #[.int .i64 2,.int .i64 0,.int .u64 0,.string ⟨#[]⟩] 64))
 have HN:=RN _ (w.heap.size+1+1) cp (by simp) hcp
 clear ht hl hk hrd hg RN
 go_enter Tryz.func121,Tryz.ntmps121
 go_wp2_with fail
 refine HN.out.mono ?_
 rintro e w1 ⟨rfl,hW⟩
 have hb1:=(B8 ((w.alloc (.cells #[.int .i64 0,.int .i64 0,.int .u64 0,.string ⟨#[]⟩] 64)).alloc (.cells #[.int .i64 2,.int .i64 0,.int .u64 0,.string ⟨#[]⟩] 64))).out
 rw [hW] at hb1
 obtain ⟨hbw,x,f0,y,f1⟩:=two_boxes hb1
 obtain ⟨x0,x1,x2,x3⟩:=x
 obtain ⟨y0,y1,y2,y3⟩:=y
 have hsw:=hbw.size
 clear hb1 hW co B8 HN
 go_wp2
 refine bodyPost_ret (v:=.tuple #[noVal.v,.int .i64 0]) (by simp [results,Tryz.results121,go_sem,noVal,Val.v,x0,x1,x2,x3,f0,y0,y1,y2,y3,f1]) rfl ⟨rfl,bel_set4 hbw _ _ _ _⟩
set_option maxRecDepth 100000 in
set_option maxHeartbeats 2000000 in
theorem krRead_num {s t:List UInt8} {c:UInt8} (hst:s=c :: t) (hk:c.toNat=2) (hs:s.length≤2000) {U m:Nat} (hrd:rdNum t=some (U,m)) (w:World):Calls Tryz.prog 121 #[strV s] w fun e w'=>e = .returned (krGive (some (⟨2,0,U,⟨#[]⟩⟩,1+m)))∧Bel w w':=by
 have hsI:(s.length:Int)≤2000:=by omega
 have hl:s.length=t.length+1:=by rw [hst];rfl
 have hix:=fun W=>index_bytes (s:=s) (k:=0) (c:=c) (by rw [hst];rfl) (i:=0) rfl W
 have ht:t=s.drop 1:=by rw [hst];rfl
 rw [hk] at hix
 clear hst
 have h0:(0:Int)<s.length:=by omega
 have h1:(1:Int)≤s.length:=by omega
 have hne:((s.length:Int) == 0)=false:=by rw [beq_eq_false_iff_ne];omega
 unfold strV
 have hm:=(rdNum_le hrd).2.2.1
 have hmI:(m:Int)≤9:=by omega
 have hex:(⟨s.toArray⟩:ByteArray).extract 1 s.length=⟨t.toArray⟩:=by rw [drop_bytes,ht]
 have co:=fun W=>conv_bytes t W
 have RN:=fun (W:World) (b c:Nat) (hb:W.heap.size=b) (hc:grownCap W t.length 0 5=c)=>(by subst hb hc;exact Lib.hid (r2ReadNumber_any _ t (by omega) _ (conv_at t (by omega) W)):Hid (Calls Tryz.prog 77 #[.slice (some ⟨b,0,none⟩) t.length c] (Lib.bytesWorld W 5 ⟨t.toArray⟩) fun e w'=>e = .returned (numV (rdNum t))∧Lib.bytesWorld W 5 ⟨t.toArray⟩=w'))
 have B8:=fun W=>Lib.hid (bytes_bel t W)
 have hg : ∀ W,∃ c,grownCap W t.length 0 5=c:=fun W=>⟨_,rfl⟩
 rw [hrd] at RN
 unfold numV at RN
 obtain ⟨cp,hcp⟩:=hg ((w.alloc (.cells #[.int .i64 0,.int .i64 0,.int .u64 0,.string ⟨#[]⟩] 64)).alloc (.cells #[.int .i64 2,.int .i64 0,.int .u64 0,.string ⟨#[]⟩] 64))
 have HN:=RN _ (w.heap.size+1+1) cp (by simp) hcp
 clear ht hl hk hrd hg RN
 go_enter Tryz.func121,Tryz.ntmps121
 go_wp2_with fail
 refine HN.out.mono ?_
 rintro e w1 ⟨rfl,hW⟩
 have hb1:=(B8 ((w.alloc (.cells #[.int .i64 0,.int .i64 0,.int .u64 0,.string ⟨#[]⟩] 64)).alloc (.cells #[.int .i64 2,.int .i64 0,.int .u64 0,.string ⟨#[]⟩] 64))).out
 rw [hW] at hb1
 obtain ⟨hbw,x,f0,y,f1⟩:=two_boxes hb1
 obtain ⟨x0,x1,x2,x3⟩:=x
 obtain ⟨y0,y1,y2,y3⟩:=y
 have hsw:=hbw.size
 clear hb1 hW co B8 HN hm
 go_wp2
 refine bodyPost_ret (v:=.tuple #[.agg #[.int .i64 2,.int .i64 0,.int .u64 U,.string ⟨#[]⟩],.int .i64 (1+(m:Int))]) (by simp [results,Tryz.results121,go_sem,noVal,Val.v,x0,x1,x2,x3,f0,y0,y1,y2,y3,f1]) rfl ⟨by simp [krGive,Val.v],bel_set4 (hbw.setCell (Nat.le_succ _) _) _ _ _ _⟩
set_option maxRecDepth 100000 in
set_option maxHeartbeats 2000000 in
theorem krRead_bool_no {s t:List UInt8} {c:UInt8} (hst:s=c :: t) (hk:c.toNat=3) (hs:s.length≤2000) (h:t.length<1) (w:World):Calls Tryz.prog 121 #[strV s] w fun e w'=>e = .returned (krGive (none))∧Bel w w':=by
 have hsI:(s.length:Int)≤2000:=by omega
 have hl:s.length=t.length+1:=by rw [hst];rfl
 have hix:=fun W=>index_bytes (s:=s) (k:=0) (c:=c) (by rw [hst];rfl) (i:=0) rfl W
 have ht:t=s.drop 1:=by rw [hst];rfl
 rw [hk] at hix
 clear hst
 have h0:(0:Int)<s.length:=by omega
 have h1:(1:Int)≤s.length:=by omega
 have hne:((s.length:Int) == 0)=false:=by rw [beq_eq_false_iff_ne];omega
 unfold strV
 have h2:(s.length:Int)<2:=by omega
 clear ht hk
 go_enter Tryz.func121,Tryz.ntmps121
 go_wp2
 refine bodyPost_ret (v:=.tuple #[noVal.v,.int .i64 0]) (by simp [results,Tryz.results121,go_sem,noVal,Val.v]) rfl ⟨rfl,by (repeat (first | exact Below.refl _ _ | assumption | exact Bel.refl _ | refine Bel.alloc ?_ _ | refine Bel.drew ?_ | refine Bel.drewN ?_ _ | refine Bel.then_ ?_ (by assumption) | refine Bel.setCell ?_ (by first | (simp;done) | (simp;omega)) _))⟩
set_option maxRecDepth 100000 in
set_option maxHeartbeats 2000000 in
theorem krRead_bool_big {s t:List UInt8} {c:UInt8} (hst:s=c :: t) (hk:c.toNat=3) (hs:s.length≤2000) (h : 1≤t.length) (he : 1<(t.getD 0 0).toNat) (w:World):Calls Tryz.prog 121 #[strV s] w fun e w'=>e = .returned (krGive (none))∧Bel w w':=by
 have hsI:(s.length:Int)≤2000:=by omega
 have hl:s.length=t.length+1:=by rw [hst];rfl
 have hix:=fun W=>index_bytes (s:=s) (k:=0) (c:=c) (by rw [hst];rfl) (i:=0) rfl W
 have ht:t=s.drop 1:=by rw [hst];rfl
 rw [hk] at hix
 clear hst
 have h0:(0:Int)<s.length:=by omega
 have h1:(1:Int)≤s.length:=by omega
 have hne:((s.length:Int) == 0)=false:=by rw [beq_eq_false_iff_ne];omega
 unfold strV
 obtain ⟨d,hd⟩ : ∃ d,s[1]? = some d:=⟨_,List.getElem?_eq_getElem (by omega)⟩
 have hgd:t.getD 0 0=d:=by rw [List.getD_eq_getElem?_getD,ht,List.getElem?_drop,hd];rfl
 rw [hgd] at he
 have hix1:=fun W=>index_bytes hd (i:=1) rfl W
 have hd255:(d.toNat:Int)≤255:=by have:=d.toNat_lt;omega
 have h2:(2:Int)≤s.length:=by omega
 generalize d.toNat=e at *
 clear ht hd hgd hk
 have heI:(e:Int) > 1:=by omega
 go_enter Tryz.func121,Tryz.ntmps121
 go_wp2
 refine bodyPost_ret (v:=.tuple #[noVal.v,.int .i64 0]) (by simp [results,Tryz.results121,go_sem,noVal,Val.v]) rfl ⟨rfl,by (repeat (first | exact Below.refl _ _ | assumption | exact Bel.refl _ | refine Bel.alloc ?_ _ | refine Bel.drew ?_ | refine Bel.drewN ?_ _ | refine Bel.then_ ?_ (by assumption) | refine Bel.setCell ?_ (by first | (simp;done) | (simp;omega)) _))⟩
set_option maxRecDepth 100000 in
set_option maxHeartbeats 2000000 in
theorem krRead_bool {s t:List UInt8} {c:UInt8} (hst:s=c :: t) (hk:c.toNat=3) (hs:s.length≤2000) (h : 1≤t.length) (he : ¬ 1<(t.getD 0 0).toNat) (w:World):Calls Tryz.prog 121 #[strV s] w fun e w'=>e = .returned (krGive (some (⟨3,(t.getD 0 0).toNat,0,⟨#[]⟩⟩,2)))∧Bel w w':=by
 have hsI:(s.length:Int)≤2000:=by omega
 have hl:s.length=t.length+1:=by rw [hst];rfl
 have hix:=fun W=>index_bytes (s:=s) (k:=0) (c:=c) (by rw [hst];rfl) (i:=0) rfl W
 have ht:t=s.drop 1:=by rw [hst];rfl
 rw [hk] at hix
 clear hst
 have h0:(0:Int)<s.length:=by omega
 have h1:(1:Int)≤s.length:=by omega
 have hne:((s.length:Int) == 0)=false:=by rw [beq_eq_false_iff_ne];omega
 unfold strV
 obtain ⟨d,hd⟩ : ∃ d,s[1]? = some d:=⟨_,List.getElem?_eq_getElem (by omega)⟩
 have hgd:t.getD 0 0=d:=by rw [List.getD_eq_getElem?_getD,ht,List.getElem?_drop,hd];rfl
 rw [hgd] at he ⊢
 have hix1:=fun W=>index_bytes hd (i:=1) rfl W
 have hd255:(d.toNat:Int)≤255:=by have:=d.toNat_lt;omega
 have h2:(2:Int)≤s.length:=by omega
 generalize d.toNat=e at *
 clear ht hd hgd hk
 have heI:(e:Int)≤1:=by omega
 go_enter Tryz.func121,Tryz.ntmps121
 go_wp2
 refine bodyPost_ret (v:=.tuple #[.agg #[.int .i64 3,.int .i64 e,.int .u64 0,.string ⟨#[]⟩],.int .i64 2]) (by simp [results,Tryz.results121,go_sem,noVal,Val.v]) rfl ⟨rfl,by (repeat (first | exact Below.refl _ _ | assumption | exact Bel.refl _ | refine Bel.alloc ?_ _ | refine Bel.drew ?_ | refine Bel.drewN ?_ _ | refine Bel.then_ ?_ (by assumption) | refine Bel.setCell ?_ (by first | (simp;done) | (simp;omega)) _))⟩
set_option maxRecDepth 100000 in
set_option maxHeartbeats 2000000 in
theorem krRead_bytes_no {s t:List UInt8} {c:UInt8} (hst:s=c :: t) (hk:c.toNat=4) (hs:s.length≤2000) (hg:rdG t.length [] t=none) (w:World):Calls Tryz.prog 121 #[strV s] w fun e w'=>e = .returned (krGive (none))∧Bel w w':=by
 have hsI:(s.length:Int)≤2000:=by omega
 have hl:s.length=t.length+1:=by rw [hst];rfl
 have hix:=fun W=>index_bytes (s:=s) (k:=0) (c:=c) (by rw [hst];rfl) (i:=0) rfl W
 have ht:t=s.drop 1:=by rw [hst];rfl
 rw [hk] at hix
 clear hst
 have h0:(0:Int)<s.length:=by omega
 have h1:(1:Int)≤s.length:=by omega
 have hne:((s.length:Int) == 0)=false:=by rw [beq_eq_false_iff_ne];omega
 unfold strV
 have HG:=Lib.hid (fun V=>krread_any s hs V)
 unfold strV at HG
 rw [hl,rdG_fuel _ _ _ (by rw [← ht];omega),← ht,hg] at HG
 simp only [Option.map_none,Option.map_some,krG,krGive] at HG
 unfold Val.v at HG
 clear ht hg hl hk
 go_enter Tryz.func121,Tryz.ntmps121
 go_wp2_with fail
 refine (HG.out _).mono ?_
 rintro e w1 ⟨rfl,hb1⟩
 obtain ⟨hbw,x,f0,z,f1⟩:=two_boxes hb1
 obtain ⟨x0,x1,x2,x3⟩:=x
 have hsw:=hbw.size
 clear hb1 z f1
 unfold noVal
 go_wp2
 refine bodyPost_ret (v:=.tuple #[noVal.v,.int .i64 0]) (by simp [results,Tryz.results121,go_sem,noVal,Val.v,x0,x1,x2,x3,f0]) rfl ⟨rfl,bel_set4 hbw _ _ _ _⟩
set_option maxRecDepth 100000 in
set_option maxHeartbeats 2000000 in
theorem krRead_bytes {s t:List UInt8} {c:UInt8} (hst:s=c :: t) (hk:c.toNat=4) (hs:s.length≤2000) {y:List UInt8} {m:Nat} (hg:rdG t.length [] t=some (y,m)) (w:World):Calls Tryz.prog 121 #[strV s] w fun e w'=>e = .returned (krGive (some (⟨4,0,0,⟨y.toArray⟩⟩,1+m)))∧Bel w w':=by
 have hsI:(s.length:Int)≤2000:=by omega
 have hl:s.length=t.length+1:=by rw [hst];rfl
 have hix:=fun W=>index_bytes (s:=s) (k:=0) (c:=c) (by rw [hst];rfl) (i:=0) rfl W
 have ht:t=s.drop 1:=by rw [hst];rfl
 rw [hk] at hix
 clear hst
 have h0:(0:Int)<s.length:=by omega
 have h1:(1:Int)≤s.length:=by omega
 have hne:((s.length:Int) == 0)=false:=by rw [beq_eq_false_iff_ne];omega
 unfold strV
 have HG:=Lib.hid (fun V=>krread_any s hs V)
 unfold strV at HG
 rw [hl,rdG_fuel _ _ _ (by rw [← ht];omega),← ht,hg] at HG
 simp only [Option.map_none,Option.map_some,krG,krGive] at HG
 unfold Val.v at HG
 clear ht hg hl hk
 have hm:((m+1:Nat):Int)=((1+m:Nat):Int):=by omega
 rw [hm] at HG
 unfold krGive
 dsimp only
 generalize ((1+m:Nat):Int)=mI at *
 go_enter Tryz.func121,Tryz.ntmps121
 go_wp2_with fail
 refine (HG.out _).mono ?_
 rintro e w1 ⟨rfl,hb1⟩
 obtain ⟨hbw,x,f0,z,f1⟩:=two_boxes hb1
 obtain ⟨x0,x1,x2,x3⟩:=x
 have hsw:=hbw.size
 clear hb1 z f1
 go_wp2
 refine bodyPost_ret (v:=.tuple #[.agg #[.int .i64 4,.int .i64 0,.int .u64 0,.string ⟨y.toArray⟩],.int .i64 mI]) (by simp [results,Tryz.results121,go_sem,noVal,Val.v,x0,x1,x2,x3,f0]) rfl ⟨rfl,bel_set4 hbw _ _ _ _⟩
set_option maxRecDepth 100000 in
set_option maxHeartbeats 2000000 in
theorem krRead_big {s t:List UInt8} {c:UInt8} (hst:s=c :: t) (hk : 4<c.toNat) (hs:s.length≤2000) (w:World):Calls Tryz.prog 121 #[strV s] w fun e w'=>e = .returned (krGive none)∧Bel w w':=by
 have hsI:(s.length:Int)≤2000:=by omega
 have hl:s.length=t.length+1:=by rw [hst];rfl
 have hix:=fun W=>index_bytes (s:=s) (k:=0) (c:=c) (by rw [hst];rfl) (i:=0) rfl W
 have hc255:(c.toNat:Int)≤255:=by have:=c.toNat_lt;omega
 generalize c.toNat=k at *
 clear hst
 have hkI:(k:Int) > 4:=by omega
 have h1:(1:Int)≤s.length:=by omega
 have hne:((s.length:Int) == 0)=false:=by rw [beq_eq_false_iff_ne];omega
 unfold strV
 go_enter Tryz.func121,Tryz.ntmps121
 go_wp2
 refine bodyPost_ret (v:=.tuple #[noVal.v,.int .i64 0]) (by simp [results,Tryz.results121,go_sem,noVal,Val.v]) rfl ⟨rfl,by (repeat (first | exact Below.refl _ _ | assumption | exact Bel.refl _ | refine Bel.alloc ?_ _ | refine Bel.drew ?_ | refine Bel.drewN ?_ _ | refine Bel.then_ ?_ (by assumption) | refine Bel.setCell ?_ (by first | (simp;done) | (simp;omega)) _))⟩
theorem krRead_any (s:List UInt8) (hs:s.length≤2000) (w:World):Calls Tryz.prog 121 #[strV s] w fun e w'=>e = .returned (krGive (rdKeyV s))∧Bel w w':=by
 cases hc:s with
 | nil=>exact krRead_nil w
 | cons c t =>
   rw [hc] at hs
   unfold rdKeyV
   dsimp only
   by_cases k0:c.toNat=0
   ·rw [if_pos k0]
    exact krRead_zero rfl k0 hs w
   rw [if_neg k0]
   by_cases k1:c.toNat=1
   ·rw [if_pos k1]
    by_cases h:t.length<8
    ·rw [if_pos h]
     exact krRead_int_no rfl k1 hs h w
    ·rw [if_neg h]
     exact krRead_int rfl k1 hs (by omega) w
   rw [if_neg k1]
   by_cases k2:c.toNat=2
   ·rw [if_pos k2]
    cases hrd:rdNum t with
    | none=>exact krRead_num_no rfl k2 hs hrd w
    | some q=>exact krRead_num rfl k2 hs hrd w
   rw [if_neg k2]
   by_cases k3:c.toNat=3
   ·rw [if_pos k3]
    by_cases h:t.length<1
    ·rw [if_pos h]
     exact krRead_bool_no rfl k3 hs h w
    ·rw [if_neg h]
     by_cases he : 1<(t.getD 0 0).toNat
     ·rw [if_pos he]
      exact krRead_bool_big rfl k3 hs (by omega) he w
     ·rw [if_neg he]
      exact krRead_bool rfl k3 hs (by omega) he w
   rw [if_neg k3]
   by_cases k4:c.toNat=4
   ·rw [if_pos k4]
    cases hg:rdG t.length [] t with
    | none=>exact krRead_bytes_no rfl k4 hs hg w
    | some q=>exact krRead_bytes rfl k4 hs hg w
   rw [if_neg k4]
   exact krRead_big rfl (by omega) hs w
end
section
open Go.RowKit Go.Shelf Go.Lib
attribute [local go_sem] Oper.semAt_some
set_option maxRecDepth 100000 in
set_option maxHeartbeats 4000000 in
theorem krDecode_any (s:List UInt8) (hs:s.length≤1000000) (w:World):Calls Tryz.prog 79 #[strV s] w fun e w'=>∃ v,e = .returned (.tuple #[v,.int .i64 (krDec s).2])∧ValsIn w.heap.size w' v (krDec s).1∧Bel w w':=by
 have hsI:(s.length:Int)≤1000000:=by omega
 obtain ⟨R,hR⟩ : ∃ R,krDec s=R:=⟨_,rfl⟩
 rw [hR]
 unfold krDec rdKeys at hR
 unfold strV
 by_cases h2 : 2000<s.length
 ·rw [if_pos h2] at hR
  have hbI:(s.length:Int) > 2000:=by omega
  subst hR
  go_enter Tryz.func79,Tryz.ntmps79
  go_wp2
  go_ret2
  exact ⟨_,rfl,⟨_,Nat.le_refl _,World.ownsRow_nil _ _ _ _⟩,Bel.refl w⟩
 rw [if_neg h2] at hR
 have hbI:(s.length:Int)≤2000:=by omega
 have HI:Hid ((rdKeysF s.length (s.drop 0)).map ([] ++ ·)=rdKeysF s.length s):=Lib.hid (by rw [List.drop_zero];cases rdKeysF s.length s <;> rfl)
 generalize hG:rdKeysF s.length s=G at *
 have HRR:=Lib.hid hR
 have HRD:=Lib.hid (fun (t:List UInt8) (ht:t.length≤2000) V=>krRead_any t ht V)
 unfold strV at HRD
 have hdb:=fun a=>drop_bytes s a
 obtain ⟨i0,hi0,hz0,hz1,hz2⟩:=info_parts infoV
 have hp2:(0:Nat)<4:=by omega
 clear hG hR h2
 go_enter Tryz.func79,Tryz.ntmps79
 go_wp2
 go_loopw [4,5] (fun v i wr=>∃ (a f:Nat) (l:List Val),i = .int .i64 a∧a≤s.length∧s.length≤a+f∧l.length≤a∧(∃ A c,v = .slice A l.length c)∧Hid ((rdKeysF f (s.drop a)).map (l ++ ·)=G)∧Hid (Bel w wr∧wr.ownsRow w.heap.size 64 4 v l.length (vrows l))) (fun v i _=>s.length - (intOf i).toNat)
 case atStart=>exact ⟨0,s.length,[],rfl,Nat.zero_le _,by omega,by simp,⟨none,0,rfl⟩,HI,Bel.refl w,World.ownsRow_nil _ _ _ _⟩
 case round =>
  obtain ⟨a,f,l,rfl,ha,hf,hla,⟨A,c,rfl⟩,HG,HO⟩:=hrel
  by_cases hlt:a<s.length
  ·have hltI:(a:Int)<s.length:=by omega
   obtain ⟨g,rfl⟩ : ∃ g,f=g+1:=⟨f - 1,by omega⟩
   obtain ⟨d,t,hdt⟩ : ∃ d t,s.drop a=d :: t:=by
    cases hc:s.drop a with
    | nil=>have:=congrArg List.length hc;rw [List.length_drop] at this;simp at this;omega
    | cons d t=>exact ⟨d,t,rfl⟩
   have HC:=HRD.out (s.drop a) (by rw [List.length_drop];omega) wr
   rw [hdt] at HG HC
   unfold rdKeysF at HG
   have hdl:(d :: t).length=s.length - a:=by rw [← hdt,List.length_drop]
   rw [← hdt] at HC
   cases hrd:rdKeyV (d :: t) with
   | none =>
     rw [hrd] at HG
     rw [hdt,hrd,← hdt] at HC
     have hGn:G=none:=HG.out.symm
     subst hGn
     have hRn:R=([],150):=HRR.out.symm
     subst hRn
     unfold krGive noVal Val.v at HC
     have HC2:=Lib.hid HC
     clear HC hdt hdl hrd
     go_wp2_with fail
     refine HC2.out.mono ?_
     rintro e w1 ⟨rfl,hb1⟩
     go_wp2
     go_ret2
     exact ⟨_,rfl,⟨_,Nat.le_refl _,World.ownsRow_nil _ _ _ _⟩,HO.out.1.then_ (hb1.alloc _)⟩
   | some q =>
     obtain ⟨x,m⟩:=q
     have hml:=rdKeyV_le hrd
     rw [hrd] at HG
     rw [hdt,hrd,← hdt] at HC
     dsimp only at HG
     unfold krGive at HC
     have hmI:(m:Int)≤2000:=by omega
     have hm0:((m:Int) == 0)=false:=by rw [beq_eq_false_iff_ne];omega
     have HN:Hid ((rdKeysF g (s.drop (a+m))).map ((l ++ [x]) ++ ·)=G):=by
      have:=HG.out
      rw [← hdt,List.drop_drop,Option.map_map] at this
      refine Lib.hid (Eq.trans ?_ this)
      congr 1
      funext z
      simp
     have ham:a+m≤s.length:=by omega
     have hvx:vrow x=[.int .i64 x.k,.int .i64 x.n,.int .u64 x.u,.string x.b]:=rfl
     obtain ⟨xk,xn,xu,xb⟩:=x
     have HVX:=Lib.hid hvx
     unfold Val.v at HC
     dsimp only at *
     have HC2:=Lib.hid HC
     have HML:=Lib.hid hml
     clear HC hdt hdl hrd hvx hml
     go_wp2_with fail
     refine HC2.out.mono ?_
     rintro e w1 ⟨rfl,hb1⟩
     have hal:Bel wr ((w1.alloc (.cells #[.int .i64 xk,.int .i64 xn,.int .u64 xu,.string xb] 64)).alloc (.cells #[.int .i64 xk,.int .i64 xn,.int .u64 xu,.string xb] 64)):=(hb1.alloc _).alloc _
     have HOW:=Lib.hid (ownsRow_bel HO.out.2 hal)
     have HAL:=Lib.hid (HO.out.1.then_ hal)
     have HX1:Hid (Reads ((w1.alloc (.cells #[.int .i64 xk,.int .i64 xn,.int .u64 xu,.string xb] 64)).alloc (.cells #[.int .i64 xk,.int .i64 xn,.int .u64 xu,.string xb] 64)) (w1.heap.size+1+1) 4 (some ⟨w1.heap.size+1,0,none⟩) 1 (vrow ⟨xk,xn,xu,xb⟩)):=by
      have:=reads4 (w1.alloc (.cells #[.int .i64 xk,.int .i64 xn,.int .u64 xu,.string xb] 64)) 64 (.int .i64 xk) (.int .i64 xn) (.int .u64 xu) (.string xb)
      rw [World.size_alloc] at this
      exact Lib.hid this
     have HS1:=Lib.hid HAL.out.size
     have hon : ∀ u ∈ vrow ⟨xk,xn,xu,xb⟩,u.oneCell'=true:=fun u hu=>by
      simp [vrow] at hu
      rcases hu with rfl | rfl | rfl | rfl <;> rfl
     have h63:l.length+1≤maxLen:=by unfold maxLen;omega
     have hby:(l.length+1) * 40≤140737488355328:=by omega
     clear hal hb1
     go_wp2_with (at_builtin;refine wpList_append_any _ rfl _ _ _ rfl w.heap.size 64 i0 _ 4 40 Tryz.underlying28 hi0 hz0 hz1 hz2 rfl hp2 _ l.length (vrows l) rfl HOW.out _ (some ⟨w1.heap.size+1,0,none⟩) 1 1 (vrow ⟨xk,xn,xu,xb⟩) rfl HX1.out hon h63 hby HS1.out ?_;intro v9 w9 hown9 hg9 hat9;obtain ⟨A9,c9,rfl⟩:=row_any hown9;have hb9:Bel w w9:=Below.grown HAL.out hg9 HS1.out (fun j e=>(HOW.out.lt j e).1);have HN9:Hid (Bel w w9∧w9.ownsRow w.heap.size 64 4 (.slice A9 (l.length+1) c9) (l.length+1) (vrows (l ++ [⟨xk,xn,xu,xb⟩]))):=⟨hb9,by rw [vrows_append];simpa [vrows] using hown9⟩;clear hown9 hg9 hat9 hb9)
     have hll:(l ++ [(⟨xk,xn,xu,xb⟩:Val)]).length=l.length+1:=by simp
     go_roundw
     case rel=>exact ⟨a+m,g,l ++ [⟨xk,xn,xu,xb⟩],by go_num,ham,by have:=HML.out;omega,by rw [hll];have:=HML.out;omega,⟨A9,c9,by rw [hll]⟩,HN,by rw [hll];exact HN9.out⟩
     case measure=>have:=HML.out;simp [intOf];omega
  ·obtain rfl:a=s.length:=by omega
   have hG:=HG.out
   have hdn:rdKeysF f (s.drop s.length)=some []:=by rw [List.drop_length];cases f <;> rfl
   rw [hdn] at hG
   simp at hG
   subst hG
   have hRn:R=(l,0):=HRR.out.symm
   subst hRn
   have HV:Hid (ValsIn w.heap.size wr (.slice A l.length c) l):=⟨_,Nat.le_refl _,HO.out.2⟩
   have hno : ¬ ((s.length:Int)<s.length):=by omega
   clear hdn
   go_wp2
   go_ret2
   exact ⟨_,rfl,HV.out,HO.out.1⟩
end
section
open Go.RowKit Go.Shelf Go.Lib
theorem decS_some {s:List UInt8} {c:List Col} {k:List Int} {u:List (List Int)} (h:decS s=some (c,k,u)):rightS c k u=true∧encSch c k u=s:=by
 unfold decS at h
 cases hp:pSch s with
 | none=>rw [hp] at h;cases h
 | some q =>
   obtain ⟨⟨c',k',u'⟩,r⟩:=q
   rw [hp] at h
   dsimp only at h
   by_cases hc:rightS c' k' u'=true∧encSch c' k' u'=s
   ·rw [if_pos hc] at h
    cases h
    exact hc
   ·rw [if_neg hc] at h;cases h
end
end Go.Proofs.YtnajjhgbombboaaGreatDoor
