/-
  Texts behind the statement: part 32.
-/
import Derived.Test.YtnajjhgbombboaaGreatDoorP31
import Derived.BigQuiet
set_option linter.unusedVariables false
set_option linter.unusedSimpArgs false
namespace Go.Proofs.YtnajjhgbombboaaGreatDoor
section
open Go.RowKit Go.Shelf Go.Lib
attribute [local go_sem] Oper.semAt_some
set_option maxRecDepth 100000 in
set_option maxHeartbeats 64000000 in
theorem l8few_any (e:Ev) (vc vk vu vo vn vs:Value) (w:World) (h:EvAt w vc vk vu vo vn vs e) (hin:e.In):Calls Tryz.prog 9 #[evV e.k e.t vc vk vu vo vn vs] w (GivesFew e w):=by
 have HAT:=Lib.hid h
 have HIN:=Lib.hid hin
 obtain ⟨Ac,cc,Ak,ck,Au,cu,Ao,co,An,cn,As,cs,rfl,rfl,rfl,rfl,rfl,rfl⟩:=h.opened
 have HB0:Hid (Bel w (w.alloc (.cells #[.int .i64 e.k,.string e.t,.slice Ac e.c.length cc,.slice Ak e.ky.length ck,.slice Au e.u.length cu,.slice Ao e.o.length co,.slice An e.n.length cn,.slice As e.ns.length cs] 31))):=(Bel.refl w).alloc _
 unfold evV
 have bound : ∀ {v:Value} {A:Option Addr} {n c:Nat},(∃ (A':Option Addr) (c':Nat),(Value.slice A n c) = .slice A' n c'∧n≤c'∧c'≤maxLen)→(n:Int)≤9223372036854775807:=fun ⟨A',c',he,h1,h2⟩=>by unfold maxLen at h2;omega
 have hoI:(e.o.length:Int)≤9223372036854775807:=by obtain ⟨_,_,_,h1,h2,-⟩:=h.o;unfold maxLen at h2;omega
 have hnI:(e.n.length:Int)≤9223372036854775807:=by obtain ⟨_,_,_,h1,h2,-⟩:=h.n;unfold maxLen at h2;omega
 have hsI:(e.ns.length:Int)≤9223372036854775807:=by obtain ⟨_,_,_,h1,h2,-⟩:=h.ns;unfold maxLen at h2;omega
 have hcI:(e.c.length:Int)≤9223372036854775807:=by obtain ⟨_,_,_,h1,h2,-⟩:=h.c;unfold maxLen at h2;omega
 have hkI:(e.ky.length:Int)≤9223372036854775807:=by obtain ⟨_,_,_,h1,h2,-⟩:=h.ky;unfold maxLen at h2;omega
 have huI:(e.u.length:Int)≤9223372036854775807:=by obtain ⟨_,_,_,h1,h2,-⟩:=h.u;unfold maxLen at h2;omega
 have htI:(e.t.size:Int)≤9223372036854775807:=by have:=hin.t;unfold maxLen at this;omega
 clear h hin bound
 by_cases n0:(60:Int)<e.t.size
 ·go_enter Tryz.func9,Tryz.ntmps9
  go_wp2
  go_ret
  exact ⟨false,rfl,(fun h=>by cases h),HB0.out⟩
 have b0:decide ((60:Int)<e.t.size)=false:=by simp;omega
 by_cases n1:(12:Int)<e.o.length
 ·go_enter Tryz.func9,Tryz.ntmps9
  go_wp2
  go_ret
  exact ⟨false,rfl,(fun h=>by cases h),HB0.out⟩
 have b1:decide ((12:Int)<e.o.length)=false:=by simp;omega
 by_cases n2:(12:Int)<e.n.length
 ·go_enter Tryz.func9,Tryz.ntmps9
  go_wp2
  go_ret
  exact ⟨false,rfl,(fun h=>by cases h),HB0.out⟩
 have b2:decide ((12:Int)<e.n.length)=false:=by simp;omega
 by_cases n3:(8:Int)<e.ns.length
 ·go_enter Tryz.func9,Tryz.ntmps9
  go_wp2
  go_ret
  exact ⟨false,rfl,(fun h=>by cases h),HB0.out⟩
 have b3:decide ((8:Int)<e.ns.length)=false:=by simp;omega
 by_cases n4:(12:Int)<e.c.length
 ·go_enter Tryz.func9,Tryz.ntmps9
  go_wp2
  go_ret
  exact ⟨false,rfl,(fun h=>by cases h),HB0.out⟩
 have b4:decide ((12:Int)<e.c.length)=false:=by simp;omega
 by_cases n5:(12:Int)<e.ky.length
 ·go_enter Tryz.func9,Tryz.ntmps9
  go_wp2
  go_ret
  exact ⟨false,rfl,(fun h=>by cases h),HB0.out⟩
 have b5:decide ((12:Int)<e.ky.length)=false:=by simp;omega
 by_cases n6:(6:Int)<e.u.length
 ·go_enter Tryz.func9,Tryz.ntmps9
  go_wp2
  go_ret
  exact ⟨false,rfl,(fun h=>by cases h),HB0.out⟩
 have b6:decide ((6:Int)<e.u.length)=false:=by simp;omega
 have HFP:Hid (FewP e):=Lib.hid ⟨by omega,by omega,by omega⟩
 go_enter Tryz.func9,Tryz.ntmps9
 go_wp2
 obtain ⟨W,hW⟩ : ∃ W,W=w.alloc (.cells #[.int .i64 e.k,.string e.t,.slice Ac e.c.length cc,.slice Ak e.ky.length ck,.slice Au e.u.length cu,.slice Ao e.o.length co,.slice An e.n.length cn,.slice As e.ns.length cs] 31):=⟨_,rfl⟩
 have q2:W.cell? ⟨w.heap.size,2,none⟩=some (.slice Ac e.c.length cc):=by rw [hW];go_simp
 have q4:W.cell? ⟨w.heap.size,4,none⟩=some (.slice Au e.u.length cu):=by rw [hW];go_simp
 have q5:W.cell? ⟨w.heap.size,5,none⟩=some (.slice Ao e.o.length co):=by rw [hW];go_simp
 have q6:W.cell? ⟨w.heap.size,6,none⟩=some (.slice An e.n.length cn):=by rw [hW];go_simp
 have q7:W.cell? ⟨w.heap.size,7,none⟩=some (.slice As e.ns.length cs):=by rw [hW];go_simp
 rw [← hW]
 rw [← hW] at HB0
 have HAW:=Lib.hid (HAT.out.bel HB0.out)
 have hlW:w.heap.size<W.heap.size:=by rw [hW];simp
 clear hW
 go_loopw [3] (fun i wr=>∃ k:Nat,k≤12∧i = .int .i64 k∧Hid (Bel W wr)) (fun i _=>12 - (intOf i).toNat)
 case atStart=>exact ⟨0,Nat.zero_le _,rfl,Bel.refl W⟩
 case round =>
  obtain ⟨k,hk,rfl,HB⟩:=hrel
  by_cases hlt:k<12
  case neg =>
   obtain rfl:k=12:=by omega
   go_wp2
   go_ret
   exact ⟨true,rfl,fun _=>HFP.out,HB0.out.then_ HB.out⟩
  case pos =>
   have hkI:(k:Int)<12:=by omega
   have HAW:=Lib.hid (HAW.out.bel HB.out)
   have HO:=Lib.hid (three_val HAW.out.o (fun x hx=>HIN.out.v x (List.mem_append_left _ hx)) k)
   have HN:=Lib.hid (three_val HAW.out.n (fun x hx=>HIN.out.v x (List.mem_append_right _ hx)) k)
   have HC:=Lib.hid (three_col HAW.out.c HIN.out.c k)
   have HU:=Lib.hid (three_uni HAW.out.u k)
   have HS:=Lib.hid (three_pair HAW.out.ns k)
   have p2:=HB.out.c q2
   have p4:=HB.out.c q4
   have p5:=HB.out.c q5
   have p6:=HB.out.c q6
   have p7:=HB.out.c q7
   have hlR:w.heap.size<wr.heap.size:=Nat.lt_of_lt_of_le hlW HB.out.size
   clear HAW HAT HIN q2 q4 q5 q6 q7 hlW
   go_wp2_with fail
   refine wp_region_quiet_lit (by kernel_rfl) (lexB_of_pairs (by kernel_rfl) (by kernel_rfl)) ?_
   refine quiet_split 15 (fun _ a'=>∃ (z2 z49 z50:Value) (rest:List Value) (bb:Bool),a' = { tmps:=List.toArray ((.agg #[.int .i64 e.k,.string e.t,.slice Ac e.c.length cc,.slice Ak e.ky.length ck,.slice Au e.u.length cu,.slice Ao e.o.length co,.slice An e.n.length cn,.slice As e.ns.length cs]:Value) :: (.pointer (some ⟨w.heap.size,0,none⟩):Value) :: z2 :: (.int .i64 k:Value) :: (.pointer (some ⟨w.heap.size,1,none⟩):Value) :: (.string e.t:Value) :: (.int .i64 e.t.size:Value) :: (.bool false:Value) :: (.bool false:Value) :: (.pointer (some ⟨w.heap.size,5,none⟩):Value) :: (.slice Ao e.o.length co:Value) :: (.int .i64 e.o.length:Value) :: (.bool false:Value) :: (.bool false:Value) :: (.bool false:Value) :: (.pointer (some ⟨w.heap.size,6,none⟩):Value) :: (.slice An e.n.length cn:Value) :: (.int .i64 e.n.length:Value) :: (.bool false:Value) :: (.bool false:Value) :: (.bool false:Value) :: (.pointer (some ⟨w.heap.size,7,none⟩):Value) :: (.slice As e.ns.length cs:Value) :: (.int .i64 e.ns.length:Value) :: (.bool false:Value) :: (.bool false:Value) :: (.bool false:Value) :: (.pointer (some ⟨w.heap.size,2,none⟩):Value) :: (.pointer (some ⟨w.heap.size,2,none⟩):Value) :: (.slice Ac e.c.length cc:Value) :: (.int .i64 e.c.length:Value) :: (.bool false:Value) :: (.bool false:Value) :: (.bool false:Value) :: (.pointer (some ⟨w.heap.size,2,none⟩):Value) :: (.pointer (some ⟨w.heap.size,3,none⟩):Value) :: (.slice Ak e.ky.length ck:Value) :: (.int .i64 e.ky.length:Value) :: (.bool false:Value) :: (.bool false:Value) :: (.bool false:Value) :: (.pointer (some ⟨w.heap.size,2,none⟩):Value) :: (.pointer (some ⟨w.heap.size,4,none⟩):Value) :: (.slice Au e.u.length cu:Value) :: (.int .i64 e.u.length:Value) :: (.bool false:Value) :: (.bool false:Value) :: (.int .i64 k:Value) :: (.bool true:Value) :: z49 :: z50 :: rest),defers:=[] } ∧ rest.length=94∧rest[14]? = some (.bool bb)) ?p0 ?_
   case p0 =>
    rcases HO.out with ⟨⟨g0,g0'⟩,g1,g1'⟩ | ⟨b,off,x,rfl,g0,g1,g2,g3,⟨g4,g5⟩ | ⟨g4,g5⟩⟩
    all_goals
     repeat' ((change wpQuiet _ _ _ _ (_ :: _) _);go_big_quiet_step (fail))
     all_goals
      refine wpQuiet_nil ?_
      exact ⟨_,_,_,_,_,rfl,rfl,rfl⟩
   clear HO
   rintro _ ⟨z2,z49,z50,rest,bb,rfl,hlen,hbb⟩
   obtain ⟨z,rfl⟩:=open94 hlen
   have hz:z 14 = .bool bb:=Option.some.inj hbb
   rw [hz]
   clear hlen hbb hz
   change wpQuiet _ _ _ _ (_ :: _) _
   refine quiet_split 17 (fun _ a'=>∃ (z2 z49 z50:Value) (rest:List Value) (bb:Bool),a' = { tmps:=List.toArray ((.agg #[.int .i64 e.k,.string e.t,.slice Ac e.c.length cc,.slice Ak e.ky.length ck,.slice Au e.u.length cu,.slice Ao e.o.length co,.slice An e.n.length cn,.slice As e.ns.length cs]:Value) :: (.pointer (some ⟨w.heap.size,0,none⟩):Value) :: z2 :: (.int .i64 k:Value) :: (.pointer (some ⟨w.heap.size,1,none⟩):Value) :: (.string e.t:Value) :: (.int .i64 e.t.size:Value) :: (.bool false:Value) :: (.bool false:Value) :: (.pointer (some ⟨w.heap.size,5,none⟩):Value) :: (.slice Ao e.o.length co:Value) :: (.int .i64 e.o.length:Value) :: (.bool false:Value) :: (.bool false:Value) :: (.bool false:Value) :: (.pointer (some ⟨w.heap.size,6,none⟩):Value) :: (.slice An e.n.length cn:Value) :: (.int .i64 e.n.length:Value) :: (.bool false:Value) :: (.bool false:Value) :: (.bool false:Value) :: (.pointer (some ⟨w.heap.size,7,none⟩):Value) :: (.slice As e.ns.length cs:Value) :: (.int .i64 e.ns.length:Value) :: (.bool false:Value) :: (.bool false:Value) :: (.bool false:Value) :: (.pointer (some ⟨w.heap.size,2,none⟩):Value) :: (.pointer (some ⟨w.heap.size,2,none⟩):Value) :: (.slice Ac e.c.length cc:Value) :: (.int .i64 e.c.length:Value) :: (.bool false:Value) :: (.bool false:Value) :: (.bool false:Value) :: (.pointer (some ⟨w.heap.size,2,none⟩):Value) :: (.pointer (some ⟨w.heap.size,3,none⟩):Value) :: (.slice Ak e.ky.length ck:Value) :: (.int .i64 e.ky.length:Value) :: (.bool false:Value) :: (.bool false:Value) :: (.bool false:Value) :: (.pointer (some ⟨w.heap.size,2,none⟩):Value) :: (.pointer (some ⟨w.heap.size,4,none⟩):Value) :: (.slice Au e.u.length cu:Value) :: (.int .i64 e.u.length:Value) :: (.bool false:Value) :: (.bool false:Value) :: (.int .i64 k:Value) :: (.bool true:Value) :: z49 :: z50 :: rest),defers:=[] } ∧ rest.length=94∧rest[31]? = some (.bool bb)) ?p1 ?_
   case p1 =>
    cases bb with
    | true =>
      repeat' ((change wpQuiet _ _ _ _ (_ :: _) _);go_big_quiet_step (fail))
      all_goals
       refine wpQuiet_nil ?_
       exact ⟨_,_,_,_,_,rfl,rfl,rfl⟩
    | false =>
      rcases HN.out with ⟨⟨g0,g0'⟩,g1,g1'⟩ | ⟨b,off,x,rfl,g0,g1,g2,g3,⟨g4,g5⟩ | ⟨g4,g5⟩⟩
      all_goals
       repeat' ((change wpQuiet _ _ _ _ (_ :: _) _);go_big_quiet_step (fail))
       all_goals
        refine wpQuiet_nil ?_
        exact ⟨_,_,_,_,_,rfl,rfl,rfl⟩
   clear HN
   rintro _ ⟨z2,z49,z50,rest,bb,rfl,hlen,hbb⟩
   obtain ⟨z,rfl⟩:=open94 hlen
   have hz:z 31 = .bool bb:=Option.some.inj hbb
   rw [hz]
   clear hlen hbb hz
   change wpQuiet _ _ _ _ (_ :: _) _
   refine quiet_split 19 (fun _ a'=>∃ (z2 z49 z50:Value) (rest:List Value) (bb:Bool),a' = { tmps:=List.toArray ((.agg #[.int .i64 e.k,.string e.t,.slice Ac e.c.length cc,.slice Ak e.ky.length ck,.slice Au e.u.length cu,.slice Ao e.o.length co,.slice An e.n.length cn,.slice As e.ns.length cs]:Value) :: (.pointer (some ⟨w.heap.size,0,none⟩):Value) :: z2 :: (.int .i64 k:Value) :: (.pointer (some ⟨w.heap.size,1,none⟩):Value) :: (.string e.t:Value) :: (.int .i64 e.t.size:Value) :: (.bool false:Value) :: (.bool false:Value) :: (.pointer (some ⟨w.heap.size,5,none⟩):Value) :: (.slice Ao e.o.length co:Value) :: (.int .i64 e.o.length:Value) :: (.bool false:Value) :: (.bool false:Value) :: (.bool false:Value) :: (.pointer (some ⟨w.heap.size,6,none⟩):Value) :: (.slice An e.n.length cn:Value) :: (.int .i64 e.n.length:Value) :: (.bool false:Value) :: (.bool false:Value) :: (.bool false:Value) :: (.pointer (some ⟨w.heap.size,7,none⟩):Value) :: (.slice As e.ns.length cs:Value) :: (.int .i64 e.ns.length:Value) :: (.bool false:Value) :: (.bool false:Value) :: (.bool false:Value) :: (.pointer (some ⟨w.heap.size,2,none⟩):Value) :: (.pointer (some ⟨w.heap.size,2,none⟩):Value) :: (.slice Ac e.c.length cc:Value) :: (.int .i64 e.c.length:Value) :: (.bool false:Value) :: (.bool false:Value) :: (.bool false:Value) :: (.pointer (some ⟨w.heap.size,2,none⟩):Value) :: (.pointer (some ⟨w.heap.size,3,none⟩):Value) :: (.slice Ak e.ky.length ck:Value) :: (.int .i64 e.ky.length:Value) :: (.bool false:Value) :: (.bool false:Value) :: (.bool false:Value) :: (.pointer (some ⟨w.heap.size,2,none⟩):Value) :: (.pointer (some ⟨w.heap.size,4,none⟩):Value) :: (.slice Au e.u.length cu:Value) :: (.int .i64 e.u.length:Value) :: (.bool false:Value) :: (.bool false:Value) :: (.int .i64 k:Value) :: (.bool true:Value) :: z49 :: z50 :: rest),defers:=[] } ∧ rest.length=94∧rest[50]? = some (.bool bb)) ?p2 ?_
   case p2 =>
    cases bb with
    | true =>
      repeat' ((change wpQuiet _ _ _ _ (_ :: _) _);go_big_quiet_step (fail))
      all_goals
       refine wpQuiet_nil ?_
       exact ⟨_,_,_,_,_,rfl,rfl,rfl⟩
    | false =>
      rcases HC.out with ⟨⟨g0,g0'⟩,g1,g1'⟩ | ⟨b,off,x,rfl,g0,g1,g2,g3,⟨g4,g5⟩ | ⟨g4,g5⟩⟩
      all_goals
       repeat' ((change wpQuiet _ _ _ _ (_ :: _) _);go_big_quiet_step (fail))
       all_goals
        refine wpQuiet_nil ?_
        exact ⟨_,_,_,_,_,rfl,rfl,rfl⟩
   clear HC
   rintro _ ⟨z2,z49,z50,rest,bb,rfl,hlen,hbb⟩
   obtain ⟨z,rfl⟩:=open94 hlen
   have hz:z 50 = .bool bb:=Option.some.inj hbb
   rw [hz]
   clear hlen hbb hz
   change wpQuiet _ _ _ _ (_ :: _) _
   refine quiet_split 18 (fun _ a'=>∃ (z2 z49 z50:Value) (rest:List Value) (bb:Bool),a' = { tmps:=List.toArray ((.agg #[.int .i64 e.k,.string e.t,.slice Ac e.c.length cc,.slice Ak e.ky.length ck,.slice Au e.u.length cu,.slice Ao e.o.length co,.slice An e.n.length cn,.slice As e.ns.length cs]:Value) :: (.pointer (some ⟨w.heap.size,0,none⟩):Value) :: z2 :: (.int .i64 k:Value) :: (.pointer (some ⟨w.heap.size,1,none⟩):Value) :: (.string e.t:Value) :: (.int .i64 e.t.size:Value) :: (.bool false:Value) :: (.bool false:Value) :: (.pointer (some ⟨w.heap.size,5,none⟩):Value) :: (.slice Ao e.o.length co:Value) :: (.int .i64 e.o.length:Value) :: (.bool false:Value) :: (.bool false:Value) :: (.bool false:Value) :: (.pointer (some ⟨w.heap.size,6,none⟩):Value) :: (.slice An e.n.length cn:Value) :: (.int .i64 e.n.length:Value) :: (.bool false:Value) :: (.bool false:Value) :: (.bool false:Value) :: (.pointer (some ⟨w.heap.size,7,none⟩):Value) :: (.slice As e.ns.length cs:Value) :: (.int .i64 e.ns.length:Value) :: (.bool false:Value) :: (.bool false:Value) :: (.bool false:Value) :: (.pointer (some ⟨w.heap.size,2,none⟩):Value) :: (.pointer (some ⟨w.heap.size,2,none⟩):Value) :: (.slice Ac e.c.length cc:Value) :: (.int .i64 e.c.length:Value) :: (.bool false:Value) :: (.bool false:Value) :: (.bool false:Value) :: (.pointer (some ⟨w.heap.size,2,none⟩):Value) :: (.pointer (some ⟨w.heap.size,3,none⟩):Value) :: (.slice Ak e.ky.length ck:Value) :: (.int .i64 e.ky.length:Value) :: (.bool false:Value) :: (.bool false:Value) :: (.bool false:Value) :: (.pointer (some ⟨w.heap.size,2,none⟩):Value) :: (.pointer (some ⟨w.heap.size,4,none⟩):Value) :: (.slice Au e.u.length cu:Value) :: (.int .i64 e.u.length:Value) :: (.bool false:Value) :: (.bool false:Value) :: (.int .i64 k:Value) :: (.bool true:Value) :: z49 :: z50 :: rest),defers:=[] } ∧ rest.length=94∧rest[68]? = some (.bool bb)) ?p3 ?_
   case p3 =>
    cases bb with
    | true =>
      repeat' ((change wpQuiet _ _ _ _ (_ :: _) _);go_big_quiet_step (fail))
      all_goals
       refine wpQuiet_nil ?_
       exact ⟨_,_,_,_,_,rfl,rfl,rfl⟩
    | false =>
      rcases HU.out with ⟨⟨g0,g0'⟩,g1,g1'⟩ | ⟨b,off,B,n,d,rfl,g0,g1,g2,g3,⟨g4,g5⟩ | ⟨g4,g5⟩⟩
      all_goals
       repeat' ((change wpQuiet _ _ _ _ (_ :: _) _);go_big_quiet_step (fail))
       all_goals
        refine wpQuiet_nil ?_
        exact ⟨_,_,_,_,_,rfl,rfl,rfl⟩
   clear HU
   rintro _ ⟨z2,z49,z50,rest,bb,rfl,hlen,hbb⟩
   obtain ⟨z,rfl⟩:=open94 hlen
   have hz:z 68 = .bool bb:=Option.some.inj hbb
   rw [hz]
   clear hlen hbb hz
   change wpQuiet _ _ _ _ (_ :: _) _
   refine quiet_split 25 (fun _ a'=>∃ (z2 z49 z50:Value) (rest:List Value) (bb:Bool),a' = { tmps:=List.toArray ((.agg #[.int .i64 e.k,.string e.t,.slice Ac e.c.length cc,.slice Ak e.ky.length ck,.slice Au e.u.length cu,.slice Ao e.o.length co,.slice An e.n.length cn,.slice As e.ns.length cs]:Value) :: (.pointer (some ⟨w.heap.size,0,none⟩):Value) :: z2 :: (.int .i64 k:Value) :: (.pointer (some ⟨w.heap.size,1,none⟩):Value) :: (.string e.t:Value) :: (.int .i64 e.t.size:Value) :: (.bool false:Value) :: (.bool false:Value) :: (.pointer (some ⟨w.heap.size,5,none⟩):Value) :: (.slice Ao e.o.length co:Value) :: (.int .i64 e.o.length:Value) :: (.bool false:Value) :: (.bool false:Value) :: (.bool false:Value) :: (.pointer (some ⟨w.heap.size,6,none⟩):Value) :: (.slice An e.n.length cn:Value) :: (.int .i64 e.n.length:Value) :: (.bool false:Value) :: (.bool false:Value) :: (.bool false:Value) :: (.pointer (some ⟨w.heap.size,7,none⟩):Value) :: (.slice As e.ns.length cs:Value) :: (.int .i64 e.ns.length:Value) :: (.bool false:Value) :: (.bool false:Value) :: (.bool false:Value) :: (.pointer (some ⟨w.heap.size,2,none⟩):Value) :: (.pointer (some ⟨w.heap.size,2,none⟩):Value) :: (.slice Ac e.c.length cc:Value) :: (.int .i64 e.c.length:Value) :: (.bool false:Value) :: (.bool false:Value) :: (.bool false:Value) :: (.pointer (some ⟨w.heap.size,2,none⟩):Value) :: (.pointer (some ⟨w.heap.size,3,none⟩):Value) :: (.slice Ak e.ky.length ck:Value) :: (.int .i64 e.ky.length:Value) :: (.bool false:Value) :: (.bool false:Value) :: (.bool false:Value) :: (.pointer (some ⟨w.heap.size,2,none⟩):Value) :: (.pointer (some ⟨w.heap.size,4,none⟩):Value) :: (.slice Au e.u.length cu:Value) :: (.int .i64 e.u.length:Value) :: (.bool false:Value) :: (.bool false:Value) :: (.int .i64 k:Value) :: (.bool true:Value) :: z49 :: z50 :: rest),defers:=[] } ∧ rest.length=94∧rest[93]? = some (.bool bb)) ?p4 ?_
   case p4 =>
    cases bb with
    | true =>
      repeat' ((change wpQuiet _ _ _ _ (_ :: _) _);go_big_quiet_step (fail))
      all_goals
       refine wpQuiet_nil ?_
       exact ⟨_,_,_,_,_,rfl,rfl,rfl⟩
    | false =>
      rcases HS.out with ⟨⟨g0,g0'⟩,g1,g1'⟩ | ⟨b,off,x,y,rfl,g0,g1,g2,g3,⟨g4,g5⟩ | ⟨g4,g5⟩⟩
      all_goals
       repeat' ((change wpQuiet _ _ _ _ (_ :: _) _);go_big_quiet_step (fail))
       all_goals
        refine wpQuiet_nil ?_
        exact ⟨_,_,_,_,_,rfl,rfl,rfl⟩
   clear HS
   rintro _ ⟨z2,z49,z50,rest,bb,rfl,hlen,hbb⟩
   obtain ⟨z,rfl⟩:=open94 hlen
   have hz:z 93 = .bool bb:=Option.some.inj hbb
   rw [hz]
   clear hlen hbb hz
   refine wpQuiet_nil ?_
   intro _ hw'
   obtain ⟨nq,hw''⟩:=hw'
   subst hw''
   have HBN:=Lib.hid (HB.out.then_ (bel_drewN wr nq))
   cases bb with
   | true =>
     go_wp2
     go_ret
     exact ⟨false,rfl,(fun h=>by cases h),HB0.out.then_ HBN.out⟩
   | false =>
     go_wp2
     go_roundw
     case rel=>exact ⟨k+1,by omega,by go_num,HBN.out⟩
     case measure=>simp [intOf];omega
end
end Go.Proofs.YtnajjhgbombboaaGreatDoor
