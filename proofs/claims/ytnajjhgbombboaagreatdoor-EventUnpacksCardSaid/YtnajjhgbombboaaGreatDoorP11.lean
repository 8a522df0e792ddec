/-
  Texts behind the statement: part 11.
-/
import Derived.Test.YtnajjhgbombboaaGreatDoorP10
import Derived.Deep.RegionHeld3
set_option linter.unusedVariables false
set_option linter.unusedSimpArgs false
namespace Go.Proofs.YtnajjhgbombboaaGreatDoor
section
open Go.RowKit Go.Shelf Go.Lib
attribute [local go_sem] Oper.semAt_some
def chunkV (g n i:Nat):Value:=.slice (some ⟨g,8 * i,none⟩) (min 8 (n - 8 * i)) (min 8 (n - 8 * i))
def nCh (n:Nat):Nat:=(n+7) / 8
theorem slChunk_any (A:Option Addr) (n c:Nat) (w:World):Calls Tryz.prog 190 #[.slice A n c,.int .i64 8] w fun e w'=>e = .returned (.func (.func 204) #[] #[.pointer (some ⟨w.heap.size,0,none⟩),.pointer (some ⟨w.heap.size+1,0,none⟩)])∧(w.alloc (.cells #[.slice A n c] 34)).alloc (.cells #[.int .i64 8] 3)=w':=by
 go_enter Tryz.func190,Tryz.ntmps190
 go_wp2
 go_ret
 exact ⟨rfl,rfl⟩
theorem range_split {n k:Nat} (h:k<n) : ∃ rest,List.range n=List.range k ++ k :: rest:=by
 refine ⟨(List.range n).drop (k+1),?_⟩
 have h1:(List.range n).take k=List.range k:=by rw [List.take_range];congr 1;omega
 have h2:(List.range n).drop k=k :: (List.range n).drop (k+1):=by
  rw [List.drop_eq_getElem_cons (by simpa using h)]
  simp
 rw [← h1,← h2,List.take_append_drop]
set_option maxRecDepth 100000 in
set_option maxHeartbeats 4000000 in
theorem slChunkC_seq (m:Nat) (hm : 6≤m) {w:World} {g n cap B1 B2:Nat} (S:Nat→Prop) (hn:n≤1000) (hc:n≤cap) (hcm:cap≤maxLen) (c1:w.cell? ⟨B1,0,none⟩=some (.slice (some ⟨g,0,none⟩) n cap)) (c2:w.cell? ⟨B2,0,none⟩=some (.int .i64 8)) (s1:S B1) (s2:S B2) :
 SeqF Fence.wide m Tryz.prog 204 #[] #[.pointer (some ⟨B1,0,none⟩),.pointer (some ⟨B2,0,none⟩)] (fun x _=>x.2 = #[chunkV g n x.1]) S (List.range (nCh n)) w:=fun l' J Jx W hW hJ hY hJ0=>by
 have d1:=hW.cell (p:=⟨B1,0,none⟩) s1 c1
 have d2:=hW.cell (p:=⟨B2,0,none⟩) s2 c2
 have HD:=Lib.hid (And.intro d1 d2)
 have HJ:=Lib.hid hJ
 have HY:=Lib.hid hY
 have HJ0:=Lib.hid hJ0
 have hnI:(n:Int)≤1000:=by omega
 have hcI:(n:Int)≤cap:=by omega
 have hcmI:(cap:Int)≤9223372036854775807:=by unfold maxLen at hcm;omega
 clear hJ hY hJ0 c1 c2 d1 d2
 refine callsIn_of_wp Tryz.func204 rfl trivial ?_ rfl
 simp only [Tryz.ntmps204,List.size_toArray,List.length_cons,List.length_nil,Nat.reduceAdd,Nat.reduceSub,Array.replicate_succ,Array.replicate_zero,List.push_toArray,List.append_toArray,List.nil_append,List.cons_append]
 gi_wp2
 gi_loopw [4] (fun i wr=>∃ k:Nat,k≤nCh n∧i = .int .i64 (8 * (k:Int))∧Hid (J (List.range k) wr∧OwnS S W.heap.size W wr)) (fun i _=>2000 - (intOf i).toNat)
 case atStart=>exact ⟨0,Nat.zero_le _,rfl,HJ0.out,OwnS.refl _ _ _⟩
 case round =>
  obtain ⟨k,hk,rfl,HR⟩:=hrel
  have p1:=HR.out.2.below.cell (p:=⟨B1,0,none⟩) s1 HD.out.1
  have p2:=HR.out.2.below.cell (p:=⟨B2,0,none⟩) s2 HD.out.2
  by_cases hlt:k<nCh n
  ·have hkn : 8 * k<n:=by unfold nCh at hlt;omega
   have hknI : 8 * (k:Int)<n:=by omega
   obtain ⟨rest,hsp⟩:=range_split hlt
   have HSP:=Lib.hid hsp
   clear hsp
   have htn:(8 * (k:Int)).toNat=8 * k:=by omega
   have hge0:(0:Int)≤8 * (k:Int):=by omega
   have hle0 : 8 * (k:Int)≤(n:Int):=by omega
   have hca : ¬ cap=8 * k:=by omega
   by_cases h8 : 8 * k+8≤n
   ·have hmn:(8:Int)≤((n - 8 * k:Nat):Int):=by omega
    have htn2:(8 * (k:Int)+8).toNat=8 * k+8:=by omega
    have hup : 8 * (k:Int)+8≤cap:=by omega
    have e8 : 8 * k+8 - 8 * k=8:=by omega
    have HVE:Hid (chunkV g n k = .slice (some ⟨g,8 * k,none⟩) 8 8):=Lib.hid (by unfold chunkV;rw [show min 8 (n - 8 * k)=8 by omega])
    gi_wp2
    refine wpIn_wide.2 ?_
    refine wp_region_noPanic ?_
    refine wp_region_held_drew (S:=(fun V:World=>V.cell? ⟨B1,0,none⟩=some (.slice (some ⟨g,0,none⟩) n cap)∧V.cell? ⟨B2,0,none⟩=some (.int .i64 8))) (by kernel_rfl) ?_ (fun hHr1_0=>?_)
    ·(try dsimp only);exact ⟨p1,p2⟩
    refine tk 0 ?_
    refine tk 1 ?_
    refine tk 2 ?_
    refine rd1 3 (fun K hK=>?_)
    go_simp
    refine hK.out _ _ ?_ (fun hHr1_1=>?_)
    ·(try dsimp only);exact ⟨p1,p2⟩
    clear hK K hHr1_0
    try simp only [tkp0,tkp1,tkp2,tkp3,tkp4,tkp5,tkp6,tkp7]
    refine tk 4 ?_
    refine tk 5 ?_
    refine tk 6 ?_
    refine wpAnyH_done (by kernel_rfl) ?_ _
    refine NoPanic.normal ?_
    obtain ⟨fn,tmps,assign,body,hy,hRR⟩:=HY.out (List.range k) k #[chunkV g n k] rest wr.drew HSP.out (HJ.out _ _ _ HR.out.1 (Bel.refl wr).drew) rfl
    rw [HVE.out] at hy
    gi_wp2
    refine ⟨fun _=>by omega,hRR.mono ?_⟩
    rintro e W3 (⟨rfl,hJ3,hk3⟩ | ⟨rfl,hJx3⟩)
    ·have p23:=hk3.below.cell (p:=⟨B2,0,none⟩) s2 p2
     gi_wp2
     go_roundw
     case rel=>exact ⟨k+1,by omega,by go_num,by rw [List.range_succ];exact hJ3,(HR.out.2.trans (OwnS.of_bel (Bel.refl wr).drew)).trans hk3⟩
     case measure=>simp [intOf];omega
    ·gi_wp2
     refine bodyPost_ret (results_none rfl _ _ _) rfl ?_
     exact ⟨⟨_,rfl⟩,.inr ⟨_,_,rest,HSP.out,hJx3⟩⟩
   ·have hmn:((n - 8 * k:Nat):Int)<8:=by omega
    have htn2:(8 * (k:Int)+((n - 8 * k:Nat):Int)).toNat=n:=by omega
    have hup : 8 * (k:Int)+((n - 8 * k:Nat):Int)≤cap:=by omega
    have HVE:Hid (chunkV g n k = .slice (some ⟨g,8 * k,none⟩) (n - 8 * k) (n - 8 * k)):=Lib.hid (by unfold chunkV;rw [show min 8 (n - 8 * k)=n - 8 * k by omega])
    gi_wp2
    refine wpIn_wide.2 ?_
    refine wp_region_noPanic ?_
    refine wp_region_held_drew (S:=(fun V:World=>V.cell? ⟨B1,0,none⟩=some (.slice (some ⟨g,0,none⟩) n cap)∧V.cell? ⟨B2,0,none⟩=some (.int .i64 8))) (by kernel_rfl) ?_ (fun hHr2_0=>?_)
    ·(try dsimp only);exact ⟨p1,p2⟩
    refine tk 0 ?_
    refine tk 1 ?_
    refine tk 2 ?_
    refine rd1 3 (fun K hK=>?_)
    go_simp
    refine hK.out _ _ ?_ (fun hHr2_1=>?_)
    ·(try dsimp only);exact ⟨p1,p2⟩
    clear hK K hHr2_0
    try simp only [tkp0,tkp1,tkp2,tkp3,tkp4,tkp5,tkp6,tkp7]
    refine tk 4 ?_
    refine tk 5 ?_
    refine tk 6 ?_
    refine wpAnyH_done (by kernel_rfl) ?_ _
    refine NoPanic.normal ?_
    obtain ⟨fn,tmps,assign,body,hy,hRR⟩:=HY.out (List.range k) k #[chunkV g n k] rest wr.drew HSP.out (HJ.out _ _ _ HR.out.1 (Bel.refl wr).drew) rfl
    rw [HVE.out] at hy
    gi_wp2
    refine ⟨fun _=>by omega,hRR.mono ?_⟩
    rintro e W3 (⟨rfl,hJ3,hk3⟩ | ⟨rfl,hJx3⟩)
    ·have p23:=hk3.below.cell (p:=⟨B2,0,none⟩) s2 p2
     gi_wp2
     go_roundw
     case rel=>exact ⟨k+1,by omega,by go_num,by rw [List.range_succ];exact hJ3,(HR.out.2.trans (OwnS.of_bel (Bel.refl wr).drew)).trans hk3⟩
     case measure=>simp [intOf];omega
    ·gi_wp2
     refine bodyPost_ret (results_none rfl _ _ _) rfl ?_
     exact ⟨⟨_,rfl⟩,.inr ⟨_,_,rest,HSP.out,hJx3⟩⟩
  ·obtain rfl:k=nCh n:=by omega
   have hge : ¬ (8 * (nCh n:Int)<n):=by unfold nCh;omega
   gi_wp2
   go_end0
   exact ⟨⟨_,rfl⟩,.inl HR.out.1⟩
end
end Go.Proofs.YtnajjhgbombboaaGreatDoor
