/-
  Texts behind the statement: part 8.
-/
import Derived.Test.YtnajjhgbombboaaGreatDoorP7
import Derived.Lib.AppendStr
import Derived.BigQuiet
import Derived.Laws.BytesArg
import Derived.Lib.AppendZeros
import Derived.Lib.AppendZerosOnto
set_option linter.unusedVariables false
set_option linter.unusedSimpArgs false
namespace Go.Proofs.YtnajjhgbombboaaGreatDoor
section
open Go.RowKit Go.Lib
def BsAt (w:World) (v:Value) (s:List UInt8):Prop:=∃ A c,v = .slice A s.length c∧s.length≤c∧c≤maxLen∧Reads w w.heap.size 1 A s.length (s.map bv)
theorem Reads.belH {w w':World} {A:Option Addr} {n size:Nat} {xs:List Value} (h:Reads w w.heap.size size A n xs) (hb:Bel w w'):Reads w' w'.heap.size size A n xs:=(h.keep fun _ hp=>hb.cell hp).more hb.size
theorem BsAt.bel {w w':World} {v:Value} {s:List UInt8} (h:BsAt w v s) (hb:Bel w w'):BsAt w' v s:=by
 obtain ⟨A,c,e,h1,h2,h3⟩:=h
 exact ⟨A,c,e,h1,h2,h3.belH hb⟩
theorem BsAt.of_own {w:World} {b n:Nat} {v:Value} {s:List UInt8} (h:w.ownsRow b 5 1 v n (s.map bv)):BsAt w v s:=by
 have hn:n=s.length:=by have:=h.1;simp at this;exact this.symm
 subst hn
 rcases h.2 with ⟨rfl,h0⟩ | ⟨g,cap,cur,rfl,hbg,hh,hnc,hcm,hcs,htk⟩
 ·have hs:s=[]:=List.eq_nil_of_length_eq_zero h0
  subst hs
  exact ⟨none,0,rfl,Nat.le_refl _,Nat.zero_le _,Reads.none_⟩
 ·exact ⟨_,cap,rfl,hnc,hcm,Reads.of_own h⟩
def numB (n:Nat):List UInt8:=UInt8.ofNat (needN n) :: beN n (needN n)
theorem needN_8 {n:Nat} (h:n<2 ^ 64):needN n≤8:=(needN_le_iff n 8).2 (by rw [show (256:Nat) ^ 8=2 ^ 64 by decide];exact h)
set_option maxRecDepth 100000 in
set_option maxHeartbeats 1000000 in
theorem laid2_any (n many:Nat) (hm:many≤8) (b base:Nat) (A:Option Addr) (m c:Nat) (xs:List Value) (hx:m≤1000) (w:World) (hbase:base≤w.heap.size) (hown:w.ownsRow base 5 1 (.slice A m c) m xs) (hB:Blk w b 62 #[.int .u64 n]) :
 Calls Tryz.prog 55 #[.slice A m c,.int .i64 many,.func (.func 90) #[] #[.pointer (some ⟨b,0,none⟩)]] w (GivesRow base (m+many) (xs ++ (beN n many).map bv) w):=by
 obtain ⟨i0,hi0,hz0,hz1,hz2⟩:=info_parts infoU8
 have HOWN:=Lib.hid hown
 have HB:=Lib.hid hB
 have hmI:(many:Int)≤8:=by omega
 clear hown hB
 go_enter Tryz.func55,Tryz.ntmps55
 go_wp2
 go_loopw [0,7] (fun v i wr=>∃ (k:Nat) (A:Option Addr) (c:Nat),k≤many∧i = .int .i64 ((many:Int) - 1 - k)∧v = .slice A (m+k) c∧Hid (wr.ownsRow base 5 1 (.slice A (m+k) c) (m+k) (xs ++ ((beN n many).take k).map bv)∧Below base w wr∧Blk wr b 62 #[.int .u64 n])∧base≤wr.heap.size) (fun _ i _=>(intOf i+1).toNat)
 case atStart=>exact ⟨0,A,c,Nat.zero_le _,by simp,rfl,⟨by simpa using HOWN.out,Below.refl _ _,HB.out⟩,hbase⟩
 case round =>
  obtain ⟨k,A,c,hk,rfl,rfl,HR,hsz⟩:=hrel
  by_cases hlt:k<many
  ·have hcr:wr.cell? ⟨b,0,none⟩=some (.int .u64 n):=HR.out.2.2.cell 0
   have hge:decide ((many:Int) - 1 - k ≥ 0)=true:=by simp;omega
   have HOC:=Lib.hid (ofC_any n (many - 1 - k) (by omega) b wr hcr)
   have hcast:((many - 1 - k:Nat):Int)=(many:Int) - 1 - k:=by omega
   rw [hcast] at HOC
   have hval:bv (UInt8.ofNat (n / 256 ^ (many - 1 - k) % 256)) = .int .u8 ((n / 256 ^ (many - 1 - k) % 256:Nat):Int):=by
    unfold bv
    simp
   have hnext:(xs ++ ((beN n many).take k).map bv) ++ [.int .u8 ((n / 256 ^ (many - 1 - k) % 256:Nat):Int)]=xs ++ ((beN n many).take (k+1)).map bv:=by
    rw [List.take_add_one,beN_at n many k hlt,List.map_append,← List.append_assoc,← hval]
    rfl
   generalize hvv:((n / 256 ^ (many - 1 - k) % 256:Nat):Int)=vv at *
   have HNX:=Lib.hid hnext
   clear hcast hval hnext hcr
   go_wp2_with (first | (go_at_call 90;refine HOC.out.mono ?_;rintro e w' ⟨rfl,rfl⟩) | (at_builtin;refine wpList_append_any _ rfl (.tmp 14) (.tmp 18) _ rfl base 5 i0 _ 1 1 Tryz.underlying34 hi0 hz0 hz1 hz2 rfl (by omega) (.slice A (m+k) c) (m+k) (xs ++ ((beN n many).take k).map bv) rfl ?c1 (wr.heap.size+1) (some ⟨wr.heap.size,0,none⟩) 1 1 [.int .u8 vv] rfl ?c2 ?c3 ?c4 ?c5 ?c6 ?_))
   case c1=>exact HR.out.1.alloc _
   case c2=>exact reads1 wr _ _
   case c3=>simp [Value.oneCell']
   case c4=>unfold maxLen;omega
   case c5=>omega
   case c6=>simp;omega
   intro v1 w1 hown1 hg1 hat1
   have hown2:w1.ownsRow base 5 1 v1 (m+k+1) (xs ++ ((beN n many).take (k+1)).map bv):=by rw [← HNX.out];simpa using hown1
   obtain ⟨g,cap',rfl⟩:=ownsRow_succ hown2
   have hB1:Below base w w1:=HR.out.2.1.trans (((Below.refl base wr).alloc hsz _).trans (Below.grown (Below.refl _ _) hg1 (by simp;omega) (fun j e=>by have:=(HR.out.1.lt j e).1;omega)))
   have hBk:Blk w1 b 62 #[.int .u64 n]:=(HR.out.2.2.alloc _).grown hg1 (fun e=>own_blk_ne HR.out.1 HR.out.2.2 (by decide) e.symm)
   have HO1:=Lib.hid hown2
   have HB1:=Lib.hid (And.intro hB1 hBk)
   have hs1:base≤w1.heap.size:=by have:=hg1.size;simp at this;omega
   clear hown1 hown2 hg1 hat1 hB1 hBk
   go_wp2
   go_roundw
   case rel=>exact ⟨k+1,_,_,by omega,by go_num,rfl,⟨HO1.out,HB1.out.1,HB1.out.2⟩,hs1⟩
   case measure=>simp [intOf];omega
  ·obtain rfl:k=many:=by omega
   go_wp2
   go_ret
   refine ⟨A,c,rfl,?_,HR.out.2.1⟩
   have:=HR.out.1
   rwa [List.take_of_length_le (by rw [beN_length];exact Nat.le_refl _)] at this
def GivesB (s:List UInt8) (w:World) (e:Ending) (w':World):Prop:=∃ A c,e = .returned (.slice A s.length c)∧w'.ownsRow w.heap.size 5 1 (.slice A s.length c) s.length (s.map bv)∧Bel w w'
set_option maxRecDepth 100000 in
set_option maxHeartbeats 1000000 in
theorem oNumberE_any (n:Nat) (h64:n<2 ^ 64) (w:World):Calls Tryz.prog 26 #[.int .u64 n] w (GivesB (numB n) w):=by
 have HN:=Lib.hid (fun V=>need_any n h64 V)
 have h8:=needN_8 h64
 have hlen:(numB n).length=1+needN n:=by unfold numB;rw [List.length_cons,beN_length];omega
 have hmap:(numB n).map bv=[.int .u8 (needN n)] ++ (beN n (needN n)).map bv:=by
  have:(UInt8.ofNat (needN n)).toNat=needN n:=by simp;omega
  unfold numB
  rw [List.map_cons]
  unfold bv
  rw [this]
  rfl
 unfold GivesB
 rw [hlen,hmap]
 have hW:(w.alloc (.cells #[.int .u8 (needN n)] 5)).ownsRow w.heap.size 5 1 (.slice (some ⟨w.heap.size,0,none⟩) 1 1) 1 [.int .u8 (needN n)] :=
  ⟨rfl,.inr ⟨w.heap.size,1,_,rfl,Nat.le_refl _,World.alloc_heap_new w _,Nat.le_refl _,by unfold maxLen;omega,rfl,rfl⟩⟩
 have HL:=Lib.hid (laid2_any n (needN n) h8 (w.heap.size+1) w.heap.size (some ⟨w.heap.size,0,none⟩) 1 1 _ (by omega) ((w.alloc (.cells #[.int .u8 (needN n)] 5)).alloc (.cells #[.int .u64 n] 62)) (by simp;omega) (hW.alloc _) (by have:=Blk.new (w.alloc (.cells #[.int .u8 (needN n)] 5)) 62 #[.int .u64 n];simpa using this))
 have h8I:(needN n:Int)≤8:=by omega
 clear hlen hmap h64 hW
 generalize (beN n (needN n)).map bv=ys at *
 generalize needN n=K at *
 go_enter Tryz.func26,Tryz.ntmps26
 go_wp2_with (first | (go_at_call 56;refine (HN.out _).mono ?_;rintro e w' ⟨rfl,rfl⟩) | (go_at_call 57;refine (of_any n _).mono ?_;rintro e w' ⟨rfl,rfl⟩) | (go_at_call 55;refine HL.out.mono ?_;rintro e w1 ⟨A,c,rfl,hown,hbel⟩))
 go_ret
 exact ⟨A,c,rfl,hown,Below.trans (((Bel.refl w).alloc _).alloc _) hbel⟩
def textB (s:List UInt8):List UInt8:=numB s.length ++ s
theorem strCells_map (s:ByteArray):strCells s=s.data.toList.map bv:=by
 unfold strCells bv
 rfl
set_option maxRecDepth 100000 in
set_option maxHeartbeats 1000000 in
theorem oText_any (s:ByteArray) (hs:s.size≤1000000) (w:World):Calls Tryz.prog 88 #[.string s] w (GivesB (textB s.data.toList) w):=by
 have hsl:s.data.toList.length=s.size:=rfl
 have HN:=Lib.hid (fun V=>oNumberE_any s.size (by omega) V)
 have hlen:(textB s.data.toList).length=(numB s.size).length+s.size:=by unfold textB;rw [List.length_append,hsl]
 have hmap:(textB s.data.toList).map bv=(numB s.size).map bv ++ strCells s:=by unfold textB;rw [List.map_append,strCells_map,hsl]
 unfold GivesB
 rw [hlen,hmap]
 have hnl:(numB s.size).length≤9:=by unfold numB;rw [List.length_cons,beN_length];have:=needN_8 (n:=s.size) (by omega);omega
 have hsI:(s.size:Int)≤1000000:=by omega
 obtain ⟨i0,hi0,hz0,hz1,hz2⟩:=info_parts infoU8
 clear hlen hmap hsl
 have HNL:=Lib.hid hnl
 clear hnl
 go_enter Tryz.func88,Tryz.ntmps88
 go_wp2_with fail
 refine (HN.out w).mono ?_
 rintro e w1 ⟨A1,c1,rfl,hown,hb⟩
 have HO:=Lib.hid hown
 have HB:=Lib.hid hb
 have h63:(numB s.size).length+s.size≤maxLen:=by have:=HNL.out;unfold maxLen;omega
 have hby:(numB s.size).length+s.size≤140737488355328:=by have:=HNL.out;omega
 have hbase:=hb.size
 clear hown hb HN
 go_wp2_with (at_builtin;refine Lib.wpList_append_own_string w1 rfl (.tmp 6) (.tmp 7) 34 9 rfl w.heap.size 5 i0 Tryz.underlying34 Tryz.underlying9 hi0 hz0 hz1 hz2 _ _ _ rfl HO.out s rfl h63 hby hbase ?_;intro v9 w9 hown9 hg9 hat9;obtain ⟨A9,c9,rfl⟩:=row_form hown9;have hb9:Bel w w9:=Below.grown HB.out hg9 hbase (fun j e=>(HO.out.lt j e).1);have HN9:=Lib.hid (And.intro hown9 hb9);clear hown9 hg9 hat9 hb9)
 go_ret
 exact ⟨A9,c9,rfl,HN9.out.1,HN9.out.2⟩
end
section
open Go.RowKit Go.Lib
def rdNum:List UInt8→Option (Nat×Nat)
 | []=>none
 | h :: t=>if 8<h.toNat ∨ t.length<h.toNat then none else if needN (numN (t.take h.toNat))=h.toNat then some (numN (t.take h.toNat),1+h.toNat) else none
def numV:Option (Nat×Nat)→Value
 | some (n,m)=>.tuple #[.int .u64 n,.int .i64 m,.int .i64 0]
 | none=>.tuple #[.int .u64 0,.int .i64 0,.int .i64 120]
theorem BsAt.head {w:World} {A:Option Addr} {c:Nat} {h:UInt8} {t:List UInt8} (hb:BsAt w (.slice A (h :: t).length c) (h :: t)) : ∃ ad:Addr,A=some ad∧w.cell? ad=some (bv h)∧(h :: t).length≤c∧c≤maxLen:=by
 obtain ⟨A',c',e,h1,h2,h3⟩:=hb
 injection e with e1 e2 e3
 subst e1 e3
 obtain ⟨ad,rfl,-,hc⟩:=h3.2 (by simp)
 exact ⟨ad,rfl,by have:=hc 0 (bv h) (by simp);simpa [Addr.add] using this,h1,h2⟩
theorem BsAt.tail {w:World} {ad:Addr} {c:Nat} {h:UInt8} {t:List UInt8} (hb:BsAt w (.slice (some ad) (h :: t).length c) (h :: t)) (k:Nat) (h0 : 0<k) (hk:k≤t.length):Reads w w.heap.size 1 (some (ad.add 1)) k ((t.take k).map bv):=by
 obtain ⟨A',c',e,h1,h2,h3⟩:=hb
 injection e with e1 e2 e3
 subst e1 e3
 obtain ⟨ad',e,hbl,hc⟩:=h3.2 (by simp)
 cases e
 refine ⟨by simp;omega,fun _=>⟨_,rfl,by rw [block_of_add];exact hbl,fun j u hu=>?_⟩⟩
 rw [add_of_add,Nat.add_comm]
 refine hc (j+1) u ?_
 rw [List.map_cons,List.getElem?_cons_succ]
 rw [List.getElem?_map,List.getElem?_take] at hu
 rw [List.getElem?_map]
 split at hu
 ·exact hu
 ·cases hu
set_option maxRecDepth 100000 in
set_option maxHeartbeats 2000000 in
theorem oReadNumber_any (v:Value) (s:List UInt8) (hs:s.length≤1000000) (w:World) (h:BsAt w v s):Calls Tryz.prog 74 #[v] w fun e w'=>e = .returned (numV (rdNum s))∧Bel w w':=by
 have HB:=Lib.hid h
 obtain ⟨R,hR⟩ : ∃ R,R=rdNum s:=⟨_,rfl⟩
 rw [← hR]
 have HR:=Lib.hid hR
 clear hR
 obtain ⟨A,c,rfl,hc,hcm,-⟩:=h
 cases s with
 | nil =>
   have hf:R=none:=HR.out
   clear hs hc
   go_enter Tryz.func74,Tryz.ntmps74
   go_wp2
   refine wp_scope_forward 0 rfl ?_
   go_wp2
   go_step3
   refine ⟨rfl,?_⟩
   go_wp2
   rw [Exit.noGoto_ret]
   go_ret3
   exact ⟨by first | rfl | (rw [hf];rfl),by (repeat (first | exact Below.refl _ _ | assumption | exact Bel.refl _ | refine Bel.alloc ?_ _ | refine Bel.drew ?_ | refine Bel.drewN ?_ _ | refine Bel.then_ ?_ (by assumption) | refine Bel.setCell ?_ (by first | (simp;done) | (simp;omega)) _))⟩
 | cons hd t =>
   obtain ⟨ad,rfl,p0,-,-⟩:=HB.out.head
   have hcell:w.cell? ad=some (.int .u8 hd.toNat):=p0
   have htl:=fun k h0 hk=>HB.out.tail k h0 hk
   have hlI:(t.length:Int)≤999999:=by simp at hs;omega
   have hcI:t.length+1≤c:=by simpa using hc
   have hz0:((t.length:Int)+1 == 0)=false:=by rw [beq_eq_false_iff_ne];omega
   have HRD:Hid (R=if 8<hd.toNat ∨ t.length<hd.toNat then none else if needN (numN (t.take hd.toNat))=hd.toNat then some (numN (t.take hd.toNat),1+hd.toNat) else none):=HR.out
   obtain ⟨b,off,spot⟩:=ad
   obtain rfl:spot=none:=World.cell?_spot hcell
   have hbw:b<w.heap.size:=World.block_lt_of_cell? (w:=w) (a:=⟨b,off,none⟩) hcell
   have hd256:hd.toNat≤255:=by have:=hd.toNat_lt;omega
   clear p0 hs hc HR HB
   generalize hd.toNat=K at *
   by_cases h8 : 8<K
   ·have hf:R=none:=by rw [HRD.out,if_pos (.inl h8)]
    have h8I:(8:Int)<K:=by omega
    go_enter Tryz.func74,Tryz.ntmps74
    go_wp2
    refine wp_scope_forward 0 rfl ?_
    go_wp2
    go_step3
    refine ⟨rfl,?_⟩
    go_wp2
    rw [Exit.noGoto_ret]
    go_ret3
    exact ⟨by first | rfl | (rw [hf];rfl),by (repeat (first | exact Below.refl _ _ | assumption | exact Bel.refl _ | refine Bel.alloc ?_ _ | refine Bel.drew ?_ | refine Bel.drewN ?_ _ | refine Bel.then_ ?_ (by assumption) | refine Bel.setCell ?_ (by first | (simp;done) | (simp;omega)) _))⟩
   ·have h8b:decide ((8:Int)<K)=false:=by simp;omega
    have h8I:(K:Int)≤8:=by omega
    by_cases hlt:t.length<K
    ·have hf:R=none:=by rw [HRD.out,if_pos (.inr hlt)]
     have hltI:(t.length:Int)<K:=by omega
     go_enter Tryz.func74,Tryz.ntmps74
     go_wp2
     refine wp_scope_forward 0 rfl ?_
     go_wp2
     go_step3
     refine ⟨rfl,?_⟩
     go_wp2
     rw [Exit.noGoto_ret]
     go_ret3
     exact ⟨by first | rfl | (rw [hf];rfl),by (repeat (first | exact Below.refl _ _ | assumption | exact Bel.refl _ | refine Bel.alloc ?_ _ | refine Bel.drew ?_ | refine Bel.drewN ?_ _ | refine Bel.then_ ?_ (by assumption) | refine Bel.setCell ?_ (by first | (simp;done) | (simp;omega)) _))⟩
    ·have hltb:decide (t.length<K)=false:=by simp;omega
     have hKl:K≤t.length:=by omega
     obtain ⟨s,hs⟩ : ∃ s,s=t.take K:=⟨_,rfl⟩
     have HRS:Hid (R=if needN (numN s)=K then some (numN s,1+K) else none):=by show _=_;rw [HRD.out,if_neg (by omega),hs]
     have hsl:s.length=K:=by rw [hs,List.length_take];omega
     have hn64:numN s<2 ^ 64:=Nat.lt_of_lt_of_le (numN_lt s) (by rw [hsl,show (2:Nat) ^ 64=256 ^ 8 by decide];exact Nat.pow_le_pow_right (by decide) (by omega))
     have hn64I:(numN s:Int)≤18446744073709551615:=by omega
     have HND:=Lib.hid (fun V=>(need_any (numN s) hn64 V).mono fun e w' h=>And.intro h.1 h.2.symm)
     by_cases h0:K=0
     ·subst h0
      have hs0:s=[]:=List.eq_nil_of_length_eq_zero hsl
      subst hs0
      have hf:R=some (0,1):=HRS.out
      have HNM:=Lib.hid (fun (V:World) (A':Option Addr)=>number_any [] A' 0 (by simp) V ⟨by simp,fun h=>by simp at h⟩)
      have HN0:=Lib.hid (fun V=>(need_any 0 (by decide) V).mono fun e w' h=>And.intro h.1 h.2.symm)
      have hnl:numN []=0:=rfl
      have hne0:needN 0=0:=rfl
      rw [hnl] at HNM
      rw [hne0] at HN0
      clear hs htl hsl hn64 HRD HND hn64I hnl hne0
      go_enter Tryz.func74,Tryz.ntmps74
      go_wp2
      refine wp_scope_forward 0 rfl ?_
      go_wp2_with fail
      refine (HNM.out _ _).mono ?_
      rintro e w' ⟨rfl,rfl⟩
      go_wp2_with fail
      go_quiet ((go_at_call 56;exact Calls.quiet_of_same (HN0.out _)))
      go_wp2_with fail
      go_quiet (fail)
      go_wp2_with fail
      rw [jump_ret]
      go_ret3
      exact ⟨by rw [hf];rfl,by (repeat (first | exact Below.refl _ _ | assumption | exact Bel.refl _ | refine Bel.alloc ?_ _ | refine Bel.drew ?_ | refine Bel.drewN ?_ _ | refine Bel.then_ ?_ (by assumption) | refine Bel.setCell ?_ (by first | (simp;done) | (simp;omega)) _))⟩
     ·have hKp : 0<K:=by omega
      have hKpI:(0:Int)<K:=by omega
      have hr:=htl K hKp hKl
      rw [add_free] at hr
      rw [← hs,← hsl] at hr
      have HNM:=Lib.hid (fun V (hb:Bel w V)=>number_any s (some ⟨b,off+1,none⟩) K (by omega) V (hr.belH hb))
      have HSL:=Lib.hid hsl
      rw [hsl] at HNM
      clear hs htl hr hsl hn64 HRD h0 hlt
      generalize numN s=n at *
      by_cases hnk:needN n=K
      ·have hf:R=some (n,1+K):=by rw [HRS.out,if_pos hnk]
       rw [hnk] at HND
       have hne:((K:Int) != K)=false:=by simp
       clear hnk
       go_enter Tryz.func74,Tryz.ntmps74
       go_wp2
       refine wp_scope_forward 0 rfl ?_
       go_wp2_with fail
       refine (HNM.out _ (by (repeat (first | exact Below.refl _ _ | assumption | exact Bel.refl _ | refine Bel.alloc ?_ _ | refine Bel.drew ?_ | refine Bel.drewN ?_ _ | refine Bel.then_ ?_ (by assumption) | refine Bel.setCell ?_ (by first | (simp;done) | (simp;omega)) _)))).mono ?_
       rintro e w' ⟨rfl,rfl⟩
       go_wp2_with fail
       go_quiet ((go_at_call 56;exact Calls.quiet_of_same (HND.out _)))
       go_wp2_with fail
       go_quiet (fail)
       go_wp2_with fail
       rw [jump_ret]
       go_ret3
       exact ⟨by rw [hf];unfold numV;simp,by (repeat (first | exact Below.refl _ _ | assumption | exact Bel.refl _ | refine Bel.alloc ?_ _ | refine Bel.drew ?_ | refine Bel.drewN ?_ _ | refine Bel.then_ ?_ (by assumption) | refine Bel.setCell ?_ (by first | (simp;done) | (simp;omega)) _))⟩
      ·have hf:R=none:=by rw [HRS.out,if_neg hnk]
       have hne:((needN n:Int) != K)=true:=by rw [bne_iff_ne];omega
       clear hnk
       generalize needN n=N at *
       go_enter Tryz.func74,Tryz.ntmps74
       go_wp2
       refine wp_scope_forward 0 rfl ?_
       go_wp2_with fail
       refine (HNM.out _ (by (repeat (first | exact Below.refl _ _ | assumption | exact Bel.refl _ | refine Bel.alloc ?_ _ | refine Bel.drew ?_ | refine Bel.drewN ?_ _ | refine Bel.then_ ?_ (by assumption) | refine Bel.setCell ?_ (by first | (simp;done) | (simp;omega)) _)))).mono ?_
       rintro e w' ⟨rfl,rfl⟩
       go_wp2_with fail
       go_quiet ((go_at_call 56;exact Calls.quiet_of_same (HND.out _)))
       go_wp2
       go_step3
       refine ⟨rfl,?_⟩
       go_wp2
       rw [Exit.noGoto_ret]
       go_ret3
       exact ⟨by first | rfl | (rw [hf];rfl),by (repeat (first | exact Below.refl _ _ | assumption | exact Bel.refl _ | refine Bel.alloc ?_ _ | refine Bel.drew ?_ | refine Bel.drewN ?_ _ | refine Bel.then_ ?_ (by assumption) | refine Bel.setCell ?_ (by first | (simp;done) | (simp;omega)) _))⟩
end
section
open Go.RowKit Go.Lib
def strV (s:List UInt8):Value:=.string ⟨s.toArray⟩
theorem strOf_bytes (s:List UInt8):strOfNums (s.map fun c=>(c.toNat:Int))=⟨s.toArray⟩:=by
 unfold strOfNums
 rw [List.map_map]
 have:(s.map ((fun n:Int=>UInt8.ofNat n.toNat) ∘ fun c=>(c.toNat:Int)))=s:=by
  conv=>rhs;rw [← List.map_id s]
  apply List.map_congr_left
  intro c _
  simp
 rw [this]
theorem conv_reads {w:World} {B:Nat} {A:Option Addr} {s:List UInt8} (cap:Nat) (h:Reads w B 1 A s.length (s.map bv)):(convert 34 9 (.slice A s.length cap)).run Tryz.prog w = .ok (strV s) w:=by
 cases A with
 | none =>
   have:s=[]:=by
    cases s with
    | nil=>rfl
    | cons c s=>obtain ⟨ad,e,_⟩:=h.2 (by simp);cases e
   subst this
   exact run_convert_bytes_nil (P:=Tryz.prog) w 34 5 Tryz.underlying34 Tryz.underlying5 0 cap 9 Tryz.underlying9
 | some a =>
   have hl:(loadCells a s.length).run Tryz.prog w = .ok ((s.map fun c=>(c.toNat:Int)).map (Value.int .u8)).toArray w:=by
    have:=run_loadCells_list (P:=Tryz.prog) w a (s.map bv) (fun j v hj=>by
     have hjl:j<s.length:=by have:=(List.getElem?_eq_some_iff.1 hj).1;simpa using this
     obtain ⟨ad,u,e,_,hu,hc⟩:=h.at_ hjl
     cases e
     rw [hj] at hu
     cases hu
     exact hc)
    rw [List.length_map] at this
    rw [this,List.map_map]
    rfl
   rw [show strV s = .string (strOfNums (s.map fun c=>(c.toNat:Int))) by rw [strOf_bytes];rfl,run_convert_bytes_string w 34 9 5 _ s.length cap Tryz.underlying34 Tryz.underlying5 Tryz.underlying9,run_bytesToString w _ s.length cap _ hl,foldl_push_bytes]
   simp [strOfNums,ByteArray.empty,ByteArray.emptyWithCapacity]
   rfl
theorem rdNum_cons (h:UInt8) (t:List UInt8):rdNum (h :: t)=if 8<h.toNat ∨ t.length<h.toNat then none else if needN (numN (t.take h.toNat))=h.toNat then some (numN (t.take h.toNat),1+h.toNat) else none:=rfl
theorem rdNum_le {s:List UInt8} {n m:Nat} (h:rdNum s=some (n,m)) : 1≤m∧m≤s.length∧m≤9∧n<2 ^ 64:=by
 cases s with
 | nil=>cases h
 | cons hd t =>
   rw [rdNum_cons] at h
   by_cases hn : 8<hd.toNat ∨ t.length<hd.toNat
   ·rw [if_pos hn] at h;cases h
   ·rw [if_neg hn] at h
    by_cases he:needN (numN (t.take hd.toNat))=hd.toNat
    ·rw [if_pos he] at h
     have h:=Option.some.inj h
     injection h with h1 h2
     subst h1 h2
     refine ⟨by omega,by simp;omega,by omega,?_⟩
     refine Nat.lt_of_lt_of_le (numN_lt _) ?_
     rw [show (2:Nat) ^ 64=256 ^ 8 by decide,List.length_take]
     exact Nat.pow_le_pow_right (by decide) (by omega)
    ·rw [if_neg he] at h;cases h
def rdText (s:List UInt8):Option (List UInt8×Nat):=match rdNum s with
 | some (n,m)=>if s.length - m<n then none else some ((s.drop m).take n,m+n)
 | none=>none
def textV:Option (List UInt8×Nat)→Value
 | some (x,m)=>.tuple #[strV x,.int .i64 m,.int .i64 0]
 | none=>.tuple #[.string ⟨#[]⟩,.int .i64 0,.int .i64 120]
theorem BsAt.cut {w:World} {b off c:Nat} {s:List UInt8} (h:BsAt w (.slice (some ⟨b,off,none⟩) s.length c) s) (k n:Nat) (hk:k+n≤s.length):Reads w w.heap.size 1 (some ⟨b,off+k,none⟩) n (((s.drop k).take n).map bv):=by
 obtain ⟨A',c',e,h1,h2,h3⟩:=h
 injection e with e1 e2 e3
 subst e1 e3
 refine ⟨by simp;omega,fun hn=>?_⟩
 obtain ⟨ad,e,hbl,hc⟩:=h3.2 (by omega)
 cases e
 refine ⟨_,rfl,hbl,fun j u hu=>?_⟩
 have:=hc (k+j) u (by
  rw [List.getElem?_map,List.getElem?_take] at hu
  split at hu
  ·rw [List.getElem?_drop] at hu
   rw [List.getElem?_map]
   exact hu
  ·cases hu)
 rw [add_free] at this ⊢
 rw [Nat.add_assoc]
 exact this
set_option maxRecDepth 100000 in
set_option maxHeartbeats 2000000 in
theorem oReadText_any (v:Value) (s:List UInt8) (hs:s.length≤1000000) (w:World) (h:BsAt w v s):Calls Tryz.prog 52 #[v] w fun e w'=>e = .returned (textV (rdText s))∧Bel w w':=by
 have HN:=Lib.hid (oReadNumber_any v s hs w h)
 have HB:=Lib.hid h
 obtain ⟨R,hR⟩ : ∃ R,R=rdText s:=⟨_,rfl⟩
 rw [← hR]
 have HR:=Lib.hid hR
 clear hR
 unfold rdText at HR
 obtain ⟨A,c,rfl,hc,hcm,-⟩:=h
 have hlI:(s.length:Int)≤1000000:=by omega
 cases hrd:rdNum s with
 | none =>
   rw [hrd] at HN HR
   have hf:R=none:=HR.out
   unfold numV at HN
   clear hrd hc hcm hs
   go_enter Tryz.func52,Tryz.ntmps52
   go_wp2_with fail
   refine HN.out.mono ?_
   rintro e w1 ⟨rfl,hb1⟩
   go_wp2
   go_ret3
   exact ⟨by first | rfl | (rw [hf];rfl),hb1⟩
 | some p =>
   obtain ⟨n,m⟩:=p
   obtain ⟨hm1,hml,hm9,hn64⟩:=rdNum_le hrd
   rw [hrd] at HN HR
   unfold numV at HN
   have hmI:(m:Int)≤s.length:=by omega
   have hm1I:(1:Int)≤m:=by omega
   have hsub:(s.length:Int) - m=((s.length - m:Nat):Int):=by omega
   have hw64:IntKind.u64.wrap ((s.length:Int) - m)=((s.length - m:Nat):Int):=by rw [hsub];exact wrap_u64 _ (by omega)
   have hnI:(n:Int)≤18446744073709551615:=by omega
   by_cases hgt:s.length - m<n
   ·have hf:R=none:=by rw [HR.out];exact if_pos hgt
    have hgI:((s.length:Int) - m)<n:=by omega
    clear hrd hsub hn64 hc hcm hs
    go_enter Tryz.func52,Tryz.ntmps52
    go_wp2_with fail
    refine HN.out.mono ?_
    rintro e w1 ⟨rfl,hb1⟩
    go_wp2
    go_ret3
    exact ⟨by first | rfl | (rw [hf];rfl),hb1⟩
   ·have hf:R=some ((s.drop m).take n,m+n):=by rw [HR.out];exact if_neg hgt
    have hgb:decide (s.length - m<n)=false:=by simp;omega
    have hgI:(n:Int)≤(s.length:Int) - m:=by omega
    have hne:s ≠ []:=fun e=>by rw [e] at hml;simp at hml;omega
    obtain ⟨hd,t,rfl⟩ : ∃ hd t,s=hd :: t:=by cases s with
     | nil=>exact absurd rfl hne
     | cons a b=>exact ⟨a,b,rfl⟩
    obtain ⟨ad,rfl,p0,-,-⟩:=HB.out.head
    obtain ⟨b,off,spot⟩:=ad
    obtain rfl:spot=none:=World.cell?_spot p0
    have hrd2:=HB.out.cut m n (by omega)
    obtain ⟨x,hx⟩ : ∃ x,x=((hd :: t).drop m).take n:=⟨_,rfl⟩
    rw [← hx] at hrd2 hf
    have hxl:x.length=n:=by rw [hx,List.length_take,List.length_drop];omega
    have HCV:=Lib.hid (fun V (hb:Bel w V)=>conv_reads n (s:=x) (by rw [hxl];exact hrd2.belH hb))
    rw [hxl] at HCV
    have hnk:m+n≤(hd :: t).length:=by omega
    have HXL:=Lib.hid hxl
    clear hrd hsub hn64 hs hne hrd2 hx hxl p0 hgt HR
    have HF:=Lib.hid hf
    simp only [List.length_cons] at *
    have hnkI:(m:Int)+n≤(t.length:Int)+1:=by omega
    have htn:((m:Int)+n).toNat=m+n:=by omega
    have htm:((m:Int)+n - m).toNat=n:=by omega
    have hcL:(t.length:Int)+1≤c:=by omega
    have hcL2:(m:Int)+n≤c:=by omega
    have hlJ:(t.length:Int)≤999999:=by omega
    clear hf hw64 hnI hlI
    by_cases hn0:n=0
    ·subst hn0
     have hx0:x=[]:=List.eq_nil_of_length_eq_zero HXL.out
     subst hx0
     have hcv:=fun (V:World) (A':Option Addr) (c':Nat)=>conv_reads (w:=V) (B:=0) (A:=A') (s:=[]) c' ⟨rfl,fun h=>by simp at h⟩
     simp only [List.length_nil] at hcv
     clear HCV htm htn hnkI hcL2 hgI hgb
     go_enter Tryz.func52,Tryz.ntmps52
     go_wp2_with fail
     refine HN.out.mono ?_
     rintro e w1 ⟨rfl,hb1⟩
     go_wp2
     go_ret3
     exact ⟨by rw [HF.out];unfold textV;simp,hb1⟩
    ·have hnp:(0:Int)<n:=by omega
     go_enter Tryz.func52,Tryz.ntmps52
     go_wp2_with fail
     refine HN.out.mono ?_
     rintro e w1 ⟨rfl,hb1⟩
     have hcv:=HCV.out w1 hb1
     go_wp2
     go_ret3
     exact ⟨by rw [HF.out];unfold textV;simp,hb1⟩
end
section
open Go.RowKit Go.Lib
theorem numN_from (l:List UInt8) : ∀ m,l.foldl (fun n c=>n * 256+c.toNat) m=m * 256 ^ l.length+numN l:=by
 induction l with
 | nil=>intro m;simp [numN]
 | cons c l ih =>
   intro m
   rw [List.foldl_cons,ih]
   have:numN (c :: l)=c.toNat * 256 ^ l.length+numN l:=by unfold numN;rw [List.foldl_cons,ih,Nat.zero_mul,Nat.zero_add];rfl
   rw [this,List.length_cons,Nat.pow_succ,Nat.add_mul]
   have e:m * (256 ^ l.length * 256)=m * 256 * 256 ^ l.length:=by rw [Nat.mul_assoc,Nat.mul_comm 256]
   rw [e]
   omega
theorem numN_cons (c:UInt8) (l:List UInt8):numN (c :: l)=c.toNat * 256 ^ l.length+numN l:=by
 have:=numN_from l c.toNat
 unfold numN
 rw [List.foldl_cons]
 rw [show 0 * 256+c.toNat=c.toNat by omega]
 rw [this]
 rfl
end
section
open Go.RowKit
theorem beN_mod (n k:Nat):beN (n % 256 ^ k) k=beN n k:=by
 have : ∀ j,j≤k→beN (n % 256 ^ k) j=beN n j:=by
  intro j
  induction j with
  | zero=>intro _;rfl
  | succ j ih =>
    intro hj
    rw [beN,beN,ih (by omega)]
    congr 2
    obtain ⟨d,rfl⟩ : ∃ d,k=j+1+d:=⟨k - (j+1),by omega⟩
    rw [Nat.pow_add,Nat.pow_succ]
    rw [Nat.mul_assoc,Nat.mod_mul_right_div_self]
    rw [Nat.mod_mul_right_mod]
 exact this k (Nat.le_refl _)
theorem beN_numN (s:List UInt8):beN (numN s) s.length=s:=by
 induction s with
 | nil=>rfl
 | cons c s ih =>
   have hlt:=numN_lt s
   have h1:beN (numN (c :: s)) s.length=s:=by
    rw [← beN_mod,numN_cons,Nat.mul_comm,Nat.mul_add_mod,Nat.mod_eq_of_lt hlt,ih]
   rw [List.length_cons,beN,h1,numN_cons]
   have h2:(c.toNat * 256 ^ s.length+numN s) / 256 ^ s.length=c.toNat:=by
    rw [Nat.mul_comm,Nat.mul_add_div (Nat.pow_pos (by decide)),Nat.div_eq_of_lt hlt]
    rfl
   rw [h2,Nat.mod_eq_of_lt c.toNat_lt]
   simp
theorem rdNum_enc (n:Nat) (h64:n<2 ^ 64) (r:List UInt8):rdNum (numB n ++ r)=some (n,1+needN n):=by
 have h8:=needN_8 h64
 have hto:(UInt8.ofNat (needN n)).toNat=needN n:=by simp;omega
 unfold numB
 rw [List.cons_append,rdNum_cons,hto]
 have hl:(beN n (needN n) ++ r).length=needN n+r.length:=by rw [List.length_append,beN_length]
 have htk:(beN n (needN n) ++ r).take (needN n)=beN n (needN n):=by
  rw [List.take_append_of_le_length (by rw [beN_length];exact Nat.le_refl _),List.take_of_length_le (by rw [beN_length];exact Nat.le_refl _)]
 have hnum:numN (beN n (needN n))=n:=beN_num n _ ((needN_le_iff n _).1 (Nat.le_refl _))
 rw [if_neg (by rw [hl];omega),htk,hnum,if_pos rfl]
theorem numB_length (n:Nat):(numB n).length=1+needN n:=by unfold numB;rw [List.length_cons,beN_length];omega
theorem rdNum_back {s:List UInt8} {n m:Nat} (h:rdNum s=some (n,m)):numB n=s.take m:=by
 cases s with
 | nil=>cases h
 | cons hd t =>
   rw [rdNum_cons] at h
   by_cases hn : 8<hd.toNat ∨ t.length<hd.toNat
   ·rw [if_pos hn] at h;cases h
   ·rw [if_neg hn] at h
    by_cases he:needN (numN (t.take hd.toNat))=hd.toNat
    ·rw [if_pos he] at h
     have h:=Option.some.inj h
     injection h with h1 h2
     subst h1 h2
     unfold numB
     rw [he,Nat.add_comm,List.take_succ_cons]
     have hl:(t.take hd.toNat).length=hd.toNat:=by rw [List.length_take];omega
     have:=beN_numN (t.take hd.toNat)
     rw [hl] at this
     rw [this]
     simp
    ·rw [if_neg he] at h;cases h
theorem rdText_enc (s:List UInt8) (hs:s.length≤1000000) (r:List UInt8):rdText (textB s ++ r)=some (s,(textB s).length):=by
 unfold rdText textB
 rw [List.append_assoc,rdNum_enc s.length (by omega)]
 dsimp only
 have hl:(numB s.length ++ (s ++ r)).length=1+needN s.length+(s.length+r.length):=by simp [numB_length]
 rw [hl,if_neg (by omega),List.drop_append_of_le_length (by rw [numB_length];exact Nat.le_refl _),List.drop_eq_nil_of_le (by rw [numB_length];exact Nat.le_refl _),List.nil_append,List.take_append_of_le_length (Nat.le_refl _),List.take_length,List.length_append,numB_length]
theorem rdText_back {s x:List UInt8} {m:Nat} (h:rdText s=some (x,m)):m≤s.length∧1≤m∧textB x=s.take m∧x.length≤s.length:=by
 unfold rdText at h
 cases hr:rdNum s with
 | none=>rw [hr] at h;cases h
 | some p =>
   obtain ⟨n,k⟩:=p
   rw [hr] at h
   dsimp only at h
   obtain ⟨h1,h2,-,-⟩:=rdNum_le hr
   by_cases hc:s.length - k<n
   ·rw [if_pos hc] at h;cases h
   ·rw [if_neg hc] at h
    have h:=Option.some.inj h
    injection h with e1 e2
    subst e1 e2
    have hl:((s.drop k).take n).length=n:=by rw [List.length_take,List.length_drop];omega
    refine ⟨by omega,by omega,?_,by rw [hl];omega⟩
    unfold textB
    rw [hl,rdNum_back hr,List.take_add]
def noVal:Val:=⟨0,0,0,⟨#[]⟩⟩
theorem check_parts {x:Val} (h:checkI x=0):x=x.bare∧mayB x=true∧0≤x.k∧x.k≤4∧x.b.size≤200:=by
 unfold checkI at h
 by_cases hc:x.k<0 ∨ 4<x.k ∨ x ≠ x.bare ∨ mayB x=false
 ·rw [if_pos hc] at h;cases h
 ·rw [if_neg hc] at h
  by_cases hz : 200<x.b.size
  ·rw [if_pos hz] at h;cases h
  ·refine ⟨Classical.byContradiction fun e=>hc (.inr (.inr (.inl e))),?_,by omega,by omega,by omega⟩
   cases hm:mayB x
   ·exact absurd (.inr (.inr (.inr hm))) hc
   ·rfl
theorem right_parts {c:Col} (h:rightB c=true) : 1≤c.t∧c.t≤4∧namedB c.name=true∧sizeB c.t c.z=true:=by
 unfold rightB at h
 rw [Bool.and_eq_true,Bool.and_eq_true] at h
 obtain ⟨⟨h1,h2⟩,h3⟩:=h
 have:=of_decide_eq_true h1
 exact ⟨this.1,this.2,h2,h3⟩
end
section
open Go.RowKit
def ValsIn (n:Nat) (w:World) (v:Value) (l:List Val):Prop:=∃ b,n≤b∧w.ownsRow b 64 4 v l.length (vrows l)
theorem ValsIn.at_ {n:Nat} {w:World} {v:Value} {l:List Val} (h:ValsIn n w v l):ValsAt w v l:=by obtain ⟨b,-,h⟩:=h;exact ValsAt.of_own h rfl
def zeros (n:Nat):List UInt8:=List.replicate n 0
def grpAt (s:List UInt8) (i:Nat):List UInt8:=(s.drop (8 * i)).take 8 ++ [9]
def grpPre (s:List UInt8) (j:Nat):List UInt8:=(List.range j).flatMap (grpAt s)
def grpLast (s:List UInt8):List UInt8:=s ++ zeros (8 - s.length) ++ [UInt8.ofNat s.length]
def grpQ (s:List UInt8):Nat:=(s.length - 1) / 8
def grp (s:List UInt8):List UInt8:=grpPre s (grpQ s) ++ grpLast (s.drop (8 * grpQ s))
theorem grpPre_succ (s:List UInt8) (j:Nat):grpPre s (j+1)=grpPre s j ++ grpAt s j:=by simp [grpPre,List.range_succ]
theorem grpPre_cons (s:List UInt8) (j:Nat):grpPre s (j+1)=grpAt s 0 ++ grpPre (s.drop 8) j:=by
 induction j with
 | zero=>simp [grpPre,List.range_succ]
 | succ j ih =>
   rw [grpPre_succ,ih,grpPre_succ,List.append_assoc]
   congr 2
   unfold grpAt
   rw [List.drop_drop]
   congr 2
   rw [show 8 * (j+1)=8+8 * j by omega]
theorem grp_small {s:List UInt8} (h:s.length≤8):grp s=grpLast s:=by
 have:grpQ s=0:=by unfold grpQ;omega
 unfold grp
 rw [this]
 simp [grpPre]
theorem grp_big {s:List UInt8} (h : 8<s.length):grp s=s.take 8 ++ [9] ++ grp (s.drop 8):=by
 have hq:grpQ s=grpQ (s.drop 8)+1:=by unfold grpQ;rw [List.length_drop];omega
 unfold grp
 rw [hq,grpPre_cons,List.append_assoc]
 congr 1
 rw [List.drop_drop]
 congr 3
 omega
theorem grpLast_len {s:List UInt8} (h:s.length≤8):(grpLast s).length=9:=by simp [grpLast,zeros];omega
theorem grp_len (s:List UInt8):(grp s).length=9 * (grpQ s+1):=by
 suffices ∀ n (s:List UInt8),s.length≤n→(grp s).length=9 * (grpQ s+1) from this _ s (Nat.le_refl _)
 intro n
 induction n with
 | zero =>
   intro s hs
   rw [grp_small (by omega),grpLast_len (by omega)]
   unfold grpQ
   omega
 | succ n ih =>
   intro s hs
   by_cases h:s.length≤8
   ·rw [grp_small h,grpLast_len h]
    unfold grpQ
    omega
   ·rw [grp_big (by omega),List.length_append,ih _ (by rw [List.length_drop];omega)]
    have hq:grpQ s=grpQ (s.drop 8)+1:=by unfold grpQ;rw [List.length_drop];omega
    rw [hq]
    simp
    omega
def keyBody (x:Val):List UInt8 :=
 if x.k=1 then beN (x.n+9223372036854775808).toNat 8 else if x.k=2 then numB x.u.toNat else if x.k=3 then [UInt8.ofNat x.n.toNat] else if x.k=4 then grp x.b.data.toList else []
def keyV (x:Val):List UInt8:=UInt8.ofNat x.k.toNat :: keyBody x
def keyL (l:List Val):List UInt8:=l.flatMap keyV
theorem keyL_snoc {l:List Val} {k:Nat} {x:Val} (h:l[k]? = some x):keyL (l.take (k+1))=keyL (l.take k) ++ keyV x:=by
 have hl:k<l.length:=(List.getElem?_eq_some_iff.1 h).1
 have hx:l[k]=x:=(List.getElem?_eq_some_iff.1 h).2
 rw [List.take_succ_eq_append_getElem hl,hx]
 simp [keyL]
def rdG:Nat→List UInt8→List UInt8→Option (List UInt8×Nat)
 | 0,_,_=>none
 | f+1,acc,s =>
   if s.length<9 then none else
   if 9<(s.getD 8 0).toNat then none else
   if 200<(acc ++ s.take (min (s.getD 8 0).toNat 8)).length then none else
   if (s.getD 8 0).toNat=9 then (rdG f (acc ++ s.take 8) (s.drop 9)).map fun x=>(x.1,x.2+9) else
   if (s.drop (s.getD 8 0).toNat).take (8 - (s.getD 8 0).toNat)=zeros (8 - (s.getD 8 0).toNat)∧(0<(s.getD 8 0).toNat ∨ acc=[]) then some (acc ++ s.take (s.getD 8 0).toNat,9) else none
def sgn63 (u:Nat):Int:=(u:Int) - 9223372036854775808
def rdKeyV:List UInt8→Option (Val×Nat)
 | []=>none
 | k :: t =>
   if k.toNat=0 then some (⟨0,0,0,⟨#[]⟩⟩,1) else
   if k.toNat=1 then (if t.length<8 then none else some (⟨1,sgn63 (numN (t.take 8)),0,⟨#[]⟩⟩,9)) else
   if k.toNat=2 then (rdNum t).map (fun x=>(⟨2,0,x.1,⟨#[]⟩⟩,1+x.2)) else
   if k.toNat=3 then (if t.length<1 then none else if 1<(t.getD 0 0).toNat then none else some (⟨3,(t.getD 0 0).toNat,0,⟨#[]⟩⟩,2)) else
   if k.toNat=4 then (rdG t.length [] t).map (fun x=>(⟨4,0,0,⟨x.1.toArray⟩⟩,1+x.2)) else none
def rdKeysF:Nat→List UInt8→Option (List Val)
 | _,[]=>some []
 | 0,_ :: _=>none
 | f+1,c :: s=>match rdKeyV (c :: s) with
   | some (v,m)=>(rdKeysF f ((c :: s).drop m)).map (v :: ·)
   | none=>none
def rdKeys (s:List UInt8):Option (List Val):=if 2000<s.length then none else rdKeysF s.length s
theorem rdG_grp (f:Nat) : ∀ (acc s r:List UInt8),s.length<8 * f→acc.length+s.length≤200→(acc=[] ∨ 0<s.length)→rdG f acc (grp s ++ r)=some (acc ++ s,(grp s).length):=by
 induction f with
 | zero=>intro acc s r h;omega
 | succ f ih =>
   intro acc s r hf h200 h0
   by_cases h:s.length≤8
   ·rw [grp_small h]
    have hl:(grpLast s).length=9:=grpLast_len h
    have h8:(grpLast s ++ r).getD 8 0=UInt8.ofNat s.length:=by
     unfold grpLast zeros
     rw [List.getD_eq_getElem?_getD,List.append_assoc,List.append_assoc,List.getElem?_append_right (by omega),List.getElem?_append_right (by simp)]
     simp
    have hn:(UInt8.ofNat s.length).toNat=s.length:=by simp;omega
    have ht:(grpLast s ++ r).take s.length=s:=by
     unfold grpLast
     rw [List.append_assoc,List.append_assoc,List.take_append_of_le_length (Nat.le_refl _),List.take_length]
    have hd:((grpLast s ++ r).drop s.length).take (8 - s.length)=zeros (8 - s.length):=by
     unfold grpLast
     rw [List.append_assoc,List.append_assoc,List.drop_append_of_le_length (Nat.le_refl _),List.drop_length,List.nil_append,List.take_append_of_le_length (by simp [zeros])]
     simp [zeros]
    unfold rdG
    rw [h8,hn,if_neg (by simp [hl]),if_neg (by omega),Nat.min_eq_left h,ht,if_neg (by simp;omega),if_neg (by omega),if_pos ⟨hd,by rcases h0 with rfl | h0;exact .inr rfl;exact .inl h0⟩,hl]
   ·rw [grp_big (by omega)]
    have h8:(List.take 8 s ++ [9] ++ grp (List.drop 8 s) ++ r).getD 8 0=9:=by
     rw [List.getD_eq_getElem?_getD,List.append_assoc,List.append_assoc,List.getElem?_append_right (by simp;omega)]
     have : 8 - (List.take 8 s).length=0:=by simp;omega
     rw [this]
     simp
    have ht:(List.take 8 s ++ [9] ++ grp (List.drop 8 s) ++ r).take 8=s.take 8:=by
     rw [List.append_assoc,List.append_assoc,List.take_append_of_le_length (by simp;omega)]
     exact List.take_of_length_le (by simp;omega)
    have hd:(List.take 8 s ++ [9] ++ grp (List.drop 8 s) ++ r).drop 9=grp (List.drop 8 s) ++ r:=by
     rw [List.append_assoc]
     exact List.drop_left' (by simp;omega)
    have hl:=grp_len (List.drop 8 s)
    have hih:=ih (acc ++ s.take 8) (s.drop 8) r (by rw [List.length_drop];omega) (by simp;omega) (.inr (by rw [List.length_drop];omega))
    unfold rdG
    rw [h8]
    have h9:(9:UInt8).toNat=9:=rfl
    rw [h9,if_neg (by simp;omega),if_neg (by omega),show min 9 8=8 from rfl,ht,if_neg (by simp;omega),if_pos rfl,hd,hih]
    simp
    omega
theorem rdKeyV_enc {x:Val} (h:checkI x=0) (hw:x.Wf) (r:List UInt8):rdKeyV (keyV x ++ r)=some (x,(keyV x).length):=by
 obtain ⟨hb,hm,h0,h4,hs⟩:=check_parts h
 obtain ⟨k,n,u,b⟩:=x
 obtain ⟨w1,w2,w3,w4⟩:=hw
 simp only at h0 h4 hs w1 w2 w3 w4
 have hc:k=0 ∨ k=1 ∨ k=2 ∨ k=3 ∨ k=4:=by omega
 unfold keyV keyBody rdKeyV
 rw [List.cons_append]
 rcases hc with rfl | rfl | rfl | rfl | rfl
 ·simp [Val.bare] at hb
  obtain ⟨rfl,rfl,rfl⟩:=hb
  simp
 ·simp [Val.bare] at hb
  obtain ⟨rfl,rfl⟩:=hb
  have hl:(beN (n+9223372036854775808).toNat 8).length=8:=beN_length _ _
  have ht:(beN (n+9223372036854775808).toNat 8 ++ r).take 8=beN (n+9223372036854775808).toNat 8:=by rw [List.take_append_of_le_length (by omega),List.take_of_length_le (by omega)]
  have hnum:=beN_num (n+9223372036854775808).toNat 8 (by rw [show (256:Nat) ^ 8=18446744073709551616 from rfl];omega)
  simp [ht,hnum,hl,sgn63]
  omega
 ·simp [Val.bare] at hb
  obtain ⟨rfl,rfl⟩:=hb
  have:=rdNum_enc u.toNat (by rw [show (2:Nat) ^ 64=18446744073709551616 from rfl];omega) r
  simp [this,numB_length]
  omega
 ·simp [Val.bare] at hb
  obtain ⟨rfl,rfl⟩:=hb
  simp [mayB] at hm
  rcases hm with rfl | rfl <;> simp
 ·simp [Val.bare] at hb
  obtain ⟨rfl,rfl⟩:=hb
  have hz:b.data.toList.length≤200:=hs
  have:=rdG_grp (grp b.data.toList ++ r).length [] b.data.toList r (by rw [List.length_append,grp_len];unfold grpQ;omega) (by simpa using hz) (.inl rfl)
  simp
  rw [List.length_append] at this
  exact ⟨_,_,this,by simp,by omega⟩
theorem keyV_pos (x:Val) : 1≤(keyV x).length:=by simp [keyV]
theorem rdKeysF_enc : ∀ (l:List Val) (f:Nat),(keyL l).length≤f→(∀ x ∈ l,checkI x=0∧x.Wf)→rdKeysF f (keyL l)=some l
 | [],f,_,_=>by cases f <;> rfl
 | x :: l,f,hf,h=>by
   have h1:=h x (List.mem_cons_self ..)
   have he:keyL (x :: l)=keyV x ++ keyL l:=by simp [keyL]
   have hp:=keyV_pos x
   rw [he] at hf ⊢
   rw [List.length_append] at hf
   have hr:=rdKeyV_enc h1.1 h1.2 (keyL l)
   obtain ⟨c,t,hct⟩ : ∃ c t,keyV x=c :: t:=⟨_,_,rfl⟩
   have hd:(keyV x ++ keyL l).drop (keyV x).length=keyL l:=List.drop_left' rfl
   rw [hct] at hr hd
   rw [hct] at hf ⊢
   obtain ⟨f',rfl⟩ : ∃ f',f=f'+1:=⟨f - 1,by simp at hf;omega⟩
   rw [List.cons_append] at hr hd ⊢
   unfold rdKeysF
   rw [hr]
   simp only
   rw [hd,rdKeysF_enc l f' (by simp at hf;omega) (fun y hy=>h y (List.mem_cons_of_mem _ hy))]
   rfl
theorem rdKeys_enc {l:List Val} (h : ∀ x ∈ l,checkI x=0∧x.Wf) (hl:(keyL l).length≤2000):rdKeys (keyL l)=some l:=by
 unfold rdKeys
 rw [if_neg (by omega)]
 exact rdKeysF_enc l _ (Nat.le_refl _) h
theorem keyV_len {x:Val} (h:checkI x=0) (hu:x.u.toNat<2 ^ 64):(keyV x).length≤226:=by
 obtain ⟨hb,hm,h0,h4,hs⟩:=check_parts h
 have hz:x.b.data.toList.length≤200:=hs
 unfold keyV keyBody
 rw [List.length_cons]
 split
 ·rw [beN_length];omega
 ·split
  ·rw [numB_length]
   have:needN x.u.toNat≤8:=needN_8 hu
   omega
  ·split
   ·simp
   ·split
    ·rw [grp_len];unfold grpQ;omega
    ·simp
end
section
open Go.RowKit Go.Lib
def zrow (k:Nat):List Value:=List.replicate k (.int .u8 0)
section
variable {P:Program} (w:World)
end
end
end Go.Proofs.YtnajjhgbombboaaGreatDoor
