/-
  Texts behind the statement: part 34.
-/
import Derived.Test.YtnajjhgbombboaaGreatDoorP10
import Derived.Test.YtnajjhgbombboaaGreatDoorP33
import Derived.Lib.AppendStr
import Derived.Lib.AppendZeros
import Derived.Lib.AppendZerosOnto
set_option linter.unusedVariables false
set_option linter.unusedSimpArgs false
namespace Go.Proofs.YtnajjhgbombboaaGreatDoor
section
open Go.RowKit Go.Lib
set_option maxRecDepth 100000 in
set_option maxHeartbeats 1000000 in
theorem r2Number_any (n:Nat) (h64:n<2 ^ 64) (w:World):Calls Tryz.prog 29 #[.int .u64 n] w (GivesB (numB n) w):=by
 have HH:=Lib.hid (high_any 8 n (by rw [show (256:Nat) ^ 8=2 ^ 64 by decide];exact h64) h64 w)
 have h8:=needN_8 h64
 have hlen:(numB n).length=1+needN n:=by unfold numB;rw [List.length_cons,beN_length];omega
 have hmap:(numB n).map bv=[.int .u8 (needN n)] ++ (beN n (needN n)).map bv:=by
  have:(UInt8.ofNat (needN n)).toNat=needN n:=by simp;omega
  unfold numB
  rw [List.map_cons]
  unfold bv
  rw [this]
  rfl
 unfold GivesB
 rw [hlen,hmap]
 have h1c:=bv_one (beN n (needN n))
 have h8I:(needN n:Int)≤8:=by omega
 obtain ⟨i0,hi0,hz0,hz1,hz2⟩:=info_parts infoU8
 have hp1:(0:Nat)<1:=by omega
 clear hlen hmap h64
 generalize (beN n (needN n)).map bv=ys at *
 generalize needN n=K at *
 go_enter Tryz.func29,Tryz.ntmps29
 go_wp2_with fail
 refine HH.out.mono ?_
 rintro e w1 ⟨A1,c1,rfl,hown,hb⟩
 have hal:Bel w1 (w1.alloc (.cells #[.int .u8 K] 5)):=(Bel.refl w1).alloc _
 have HX:=Lib.hid ((Reads.of_own hown).belH hal)
 have HOW:Hid ((w1.alloc (.cells #[.int .u8 K] 5)).ownsRow w1.heap.size 5 1 (.slice (some ⟨w1.heap.size,0,none⟩) 1 1) 1 [.int .u8 K]) :=
  ⟨rfl,.inr ⟨w1.heap.size,1,_,rfl,Nat.le_refl _,World.alloc_heap_new w1 _,Nat.le_refl _,by unfold maxLen;omega,rfl,rfl⟩⟩
 have h63 : 1+K≤maxLen:=by unfold maxLen;omega
 have hby:(1+K) * 1≤140737488355328:=by omega
 have HS:w1.heap.size≤(w1.alloc (.cells #[.int .u8 K] 5)).heap.size:=hal.size
 have HAL:=Lib.hid hal
 have HB:=Lib.hid hb
 clear hown hb hal HH
 go_wp2_with (at_builtin;refine wpList_append_any _ rfl (.tmp 9) (.tmp 10) _ rfl w1.heap.size 5 i0 _ 1 1 Tryz.underlying34 hi0 hz0 hz1 hz2 rfl hp1 _ 1 _ rfl HOW.out _ A1 K c1 ys rfl HX.out h1c h63 hby HS ?_;intro v9 w9 hown9 hg9 hat9;obtain ⟨A9,c9,rfl⟩:=row_form hown9;have hb9:Bel w1 w9:=Below.grown HAL.out hg9 HS (fun j e=>(HOW.out.lt j e).1);have HN9:=Lib.hid (And.intro (ownsRow_base hown9 HB.out.size) (HB.out.then_ hb9));clear hown9 hg9 hat9 hb9)
 go_ret
 exact ⟨A9,c9,rfl,HN9.out.1,HN9.out.2⟩
set_option maxRecDepth 100000 in
set_option maxHeartbeats 1000000 in
theorem r2Text_any (s:ByteArray) (hs:s.size≤1000000) (w:World):Calls Tryz.prog 69 #[.string s] w (GivesB (textB s.data.toList) w):=by
 have hsl:s.data.toList.length=s.size:=rfl
 have HN:=Lib.hid (fun V=>r2Number_any s.size (by omega) V)
 have hlen:(textB s.data.toList).length=(numB s.size).length+s.size:=by unfold textB;rw [List.length_append,hsl]
 have hmap:(textB s.data.toList).map bv=(numB s.size).map bv ++ strCells s:=by unfold textB;rw [List.map_append,strCells_map,hsl]
 unfold GivesB
 rw [hlen,hmap]
 have hnl:(numB s.size).length≤9:=by unfold numB;rw [List.length_cons,beN_length];have:=needN_8 (n:=s.size) (by omega);omega
 have hsI:(s.size:Int)≤1000000:=by omega
 obtain ⟨i0,hi0,hz0,hz1,hz2⟩:=info_parts infoU8
 clear hlen hmap hsl
 have HNL:=Lib.hid hnl
 clear hnl
 go_enter Tryz.func69,Tryz.ntmps69
 go_wp2_with fail
 refine (HN.out w).mono ?_
 rintro e w1 ⟨A1,c1,rfl,hown,hb⟩
 have HO:=Lib.hid hown
 have HB:=Lib.hid hb
 have h63:(numB s.size).length+s.size≤maxLen:=by have:=HNL.out;unfold maxLen;omega
 have hby:(numB s.size).length+s.size≤140737488355328:=by have:=HNL.out;omega
 have hbase:=hb.size
 clear hown hb HN
 go_wp2_with (at_builtin;refine Lib.wpList_append_own_string w1 rfl (.tmp 6) (.tmp 7) 34 9 rfl w.heap.size 5 i0 Tryz.underlying34 Tryz.underlying9 hi0 hz0 hz1 hz2 _ _ _ rfl HO.out s rfl h63 hby hbase ?_;intro v9 w9 hown9 hg9 hat9;obtain ⟨A9,c9,rfl⟩:=row_form hown9;have hb9:Bel w w9:=Below.grown HB.out hg9 hbase (fun j e=>(HO.out.lt j e).1);have HN9:=Lib.hid (And.intro hown9 hb9);clear hown9 hg9 hat9 hb9)
 go_ret
 exact ⟨A9,c9,rfl,HN9.out.1,HN9.out.2⟩
end
section
open Go.RowKit Go.Lib
theorem zeroCells_row (k:Nat):Builtin.zeroCells (Value.int .u8 0).cells k=(zrow k).toArray:=by
 apply Array.ext'
 unfold Builtin.zeroCells zrow
 have h1:(Value.int IntKind.u8 0).cells = #[.int .u8 0]:=rfl
 rw [h1]
 apply List.ext_getElem?
 intro i
 by_cases hi:i<k
 ·simp [hi,Nat.mod_one]
 ·simp [hi]
section
variable {P:Program} (w:World)
theorem run_append_room_zeros (t u ty e:TypeId) (i:TypeInfo) (kn:IntKind) (ht:P.underlying t=some (.slice e)) (hu:P.underlying u=some (.int kn)) (hi:P.info? e=some i) (hz:i.zero=some (.int .u8 0)) (hs1:i.size=1) (hby:i.bytes=1)
 (g sLen sCap:Nat) (cur:Array Value) (hg:w.heap[g]? = some (.cells cur e (0,0))) (k:Nat) (hk:k≤1000000)
 (hroom:sLen+k≤sCap) (hfit:sLen+k≤cur.size) :
 (Builtin.append_ #[t,u] ty #[.slice (some ⟨g,0,none⟩) sLen sCap,.int .i64 k]).run P w =
   .ok (.slice (some ⟨g,0,none⟩) (sLen+k) sCap) (w.setRow g (cur.toList.take sLen ++ zrow k ++ cur.toList.drop (sLen+k)).toArray):=by
 have hzl:(zrow k).length=k:=by simp [zrow]
 have hst:=run_storeCells_at P g sLen e (zrow k) 0 cur w hg (by rw [hzl];simpa using hfit) (by intro u hu;simp [zrow] at hu;rw [hu.2];rfl)
 simp only [Nat.add_zero,hzl] at hst
 have hw:IntKind.i64.wrap (k:Int)=k:=by rw [IntKind.wrap_i64];omega
 have hneg : ¬ ((k:Int)<0):=by omega
 have h48i : ¬ (281474976710656<(k:Int)):=by omega
 have hw0:IntKind.i64.wrap 0=0:=by rw [IntKind.wrap_i64];rfl
 by_cases h0:k=0
 ·subst h0
  have hzr:zrow 0=[]:=rfl
  rw [hzr] at hst
  simp [Builtin.append_,run_underlying ht,run_underlying hu,sizeOf,typeInfo,zeroValue,hi,hz,hs1,hby,asInt,asIntOf,hw0,show sLen≤sCap by omega,Addr.add_lit,hst,hzr]
 ·have hzc:=zeroCells_row k
  simp [Builtin.append_,run_underlying ht,run_underlying hu,sizeOf,typeInfo,zeroValue,hi,hz,hs1,hby,asInt,asIntOf,hw,hneg,h48i,h0,hroom,Addr.add_lit,hst,hzc]
theorem run_append_own_zeros (base:Nat) (t u ty e:TypeId) (i:TypeInfo) (kn:IntKind) (ht:P.underlying t=some (.slice e)) (hu:P.underlying u=some (.int kn)) (hi:P.info? e=some i) (hz:i.zero=some (.int .u8 0))
 (hsize:i.size=1) (hby:i.bytes=1)
 (v:Value) (n:Nat) (xs:List Value) (hown:w.ownsRow base e 1 v n xs) (k:Nat) (hk:k≤1000000)
 (h63:n+k≤maxLen) (hbytes:n+k≤140737488355328) (hbase:base≤w.heap.size) :
 ∃ v' w',(Builtin.append_ #[t,u] ty #[v,.int .i64 k]).run P w = .ok v' w'∧w'.ownsRow base e 1 v' (n+k) (xs ++ zrow k)∧w.grownBy w' v.ownBlock:=by
 have hsmall:n+k≤9223372036854775807:=by simp only [maxLen] at h63;omega
 have hxl:xs.length=n:=by simpa using hown.1
 have hzl:(zrow k).length=k:=by simp [zrow]
 have hlen:(xs ++ zrow k).length=(n+k) * 1:=by rw [List.length_append,hxl,hzl,Nat.mul_one]
 have grown : ∀ (old:Nat),old<n+k → ∀ (row:Option Nat),
  (w.drew.alloc (.cells (xs.toArray ++ (zrow k).toArray ++ Builtin.zeroCells (Value.int .u8 0).cells (grownCap w (n+k) old e - (n+k))) e)).ownsRow base e 1
    (.slice (some ⟨w.heap.size,0,none⟩) (n+k) (grownCap w (n+k) old e)) (n+k) (xs ++ zrow k) ∧
  w.grownBy (w.drew.alloc (.cells (xs.toArray ++ (zrow k).toArray ++ Builtin.zeroCells (Value.int .u8 0).cells (grownCap w (n+k) old e - (n+k))) e)) row:=by
  intro old ho row
  have hge:=grownCap_ge w (n+k) old e
  have hcm:grownCap w (n+k) old e≤maxLen:=grownCap_le_maxLen w (n+k) old e h63
  refine ⟨⟨hlen,.inr ⟨w.heap.size,_,_,rfl,hbase,heap_alloc_new w.drew _,hge,hcm,?_,?_⟩⟩,⟨rfl,rfl,rfl,by simp,fun j hj _=>Below.heap_alloc w.drew _ j hj⟩⟩
  ·have hz1:(Value.int IntKind.u8 0).cells.size=1:=rfl
   simp only [Array.size_append,List.size_toArray,size_zeroCells,hz1,hxl,hzl]
   omega
  ·simp only [Array.toList_append,List.append_assoc]
   rw [← List.append_assoc,← hlen]
   exact List.take_left
 have hw:IntKind.i64.wrap (k:Int)=k:=by rw [IntKind.wrap_i64];omega
 have hw0:IntKind.i64.wrap 0=0:=by rw [IntKind.wrap_i64];rfl
 rcases hown.2 with ⟨rfl,rfl⟩ | ⟨g,cap,cur,rfl,hbg,hg,hnc,hcm,hcs,htake⟩
 ·have hx:xs=[]:=List.eq_nil_of_length_eq_zero hxl
  subst hx
  by_cases hm:k=0
  ·subst hm
   refine ⟨.slice none 0 0,w,?_,World.ownsRow_nil w base e 1,⟨rfl,rfl,rfl,Nat.le_refl _,fun _ _ _=>rfl⟩⟩
   simp [Builtin.append_,run_underlying ht,run_underlying hu,sizeOf,typeInfo,hi,hsize,hby,asInt,asIntOf,hw0]
  ·have hr:=run_append_nil_zeros (P:=P) (ty:=ty) w t u e i (.int .u8 0) .i64 kn ht hu hi hz k (by omega) (by omega) (by omega) (by rw [hby];omega)
   have hgr:=grown 0 (by omega) (Value.ownBlock (.slice none 0 0))
   simp only [Nat.zero_add,List.nil_append,Array.empty_append] at hgr ⊢
   rw [zeroCells_row k] at hr
   exact ⟨_,_,hr,hgr.1,hgr.2⟩
 ·by_cases hroom:n+k≤cap
  ·have hcs':cur.size=cap:=by simpa using hcs
   have hr:=run_append_room_zeros (P:=P) w t u ty e i kn ht hu hi hz hsize hby g n cap cur hg k hk hroom (by omega)
   refine ⟨_,_,hr,⟨hlen,.inr ⟨g,cap,_,rfl,hbg,setRow_heap w g cur _ e _ hg,hroom,hcm,?_,?_⟩⟩,⟨rfl,rfl,rfl,by simp,fun k _ hk=>setRow_other w g k _ (fun e=>hk (by simp [Value.ownBlock,e]))⟩⟩
   ·simp only [List.size_toArray,List.length_append,List.length_take,List.length_drop,Array.length_toList,hzl]
    omega
   ·have ht':cur.toList.take n=xs:=by simpa using htake
    rw [ht',← hlen]
    exact List.take_left
  ·have holds : ∀ j u,xs[j]? = some u→w.cell? ((⟨g,0,none⟩:Addr).add j)=some u:=hown.cells (g:=g) rfl
   have hr:=run_append_grow_zeros (P:=P) (ty:=ty) w t u e i (.int .u8 0) .i64 kn ht hu hi hz (some ⟨g,0,none⟩) n cap xs
    (run_firstCells_some (P:=P) w.drew i.size n ⟨g,0,none⟩ n cap xs (by rw [hsize];simpa using hxl) (by simpa using holds)) k (by omega) (by omega) (by omega) (by omega) (by rw [hby];omega) (by rw [hby];exact growslice_fits (by omega) (by omega))
   have hgr:=grown cap (by omega) (Value.ownBlock (.slice (some ⟨g,0,none⟩) n cap))
   rw [zeroCells_row k] at hr
   exact ⟨_,_,hr,hgr.1,hgr.2⟩
end
end
section
open Go.RowKit Go.Shelf Go.Lib
set_option maxRecDepth 100000 in
set_option maxHeartbeats 2000000 in
theorem r4numbers_any (vl:Value) (l:List Int) (w0 w:World) (hl:IntsAt w0 vl l) (h0:SmallI l) (hm:l.length≤100) (hbw:Bel w0 w) :
 Calls Tryz.prog 71 #[vl] w fun e w'=>∃ A' n' c',e = .returned (.slice A' n' c')∧n'≤9+9 * l.length∧Hid (Row8 w w.heap.size n' (.slice A' n' c') (encList l) w'):=by
 obtain ⟨Al,cl,rfl,hlI,hi⟩:=ints_at hl
 have HI:=Lib.hid hi
 have H0:=Lib.hid h0
 have hcv:IntKind.u64.wrap (l.length:Int)=(l.length:Int):=by simp only [IntKind.wrap,IntKind.bits,IntKind.signed];simp;omega
 have HN:=Lib.hid (fun V=>r2Number_any l.length (by omega) V)
 have h9:(numB l.length).length≤9:=numB_9 (by omega)
 have HBW:=Lib.hid hbw
 clear hi h0 hl hbw
 go_enter Tryz.func71,Tryz.ntmps71
 go_wp2_with fail
 refine (HN.out _).mono ?_
 rintro e w1 h1
 obtain ⟨A2,m,c2,rfl,H9,hb1⟩:=givesB_row (Bel.refl w) h1
 have hm9:m≤9:=by rw [← H9.out.1];exact h9
 clear h1 hb1 h9 HN
 go_wp2
 go_loopw [3,4] (fun v i wr=>∃ (k nn:Nat) (A':Option Addr) (c':Nat),k≤l.length∧nn≤9+9 * k∧v = .slice A' nn c'∧i = .int .i64 k∧Hid (Row8 w w.heap.size nn (.slice A' nn c') (numB l.length ++ encInts (l.take k)) wr)) (fun v i _=>l.length - (intOf i).toNat)
 case atStart=>exact ⟨0,_,_,_,Nat.zero_le _,by omega,rfl,rfl,by have:=H9.out;show Row8 _ _ _ _ (numB l.length ++ []) _;rw [List.append_nil];exact this⟩
 case round =>
  obtain ⟨k,nn,A',c',hk,hnn,rfl,rfl,HR⟩:=hrel
  by_cases hlt:k<l.length
  ·obtain ⟨x,hx⟩ : ∃ x,l[k]? = some x:=⟨_,List.getElem?_eq_getElem hlt⟩
   obtain ⟨b,off,rfl,hc⟩:=HI.out k x hx
   have p0:=(HBW.out.then_ HR.out.2.2.1).c hc
   have hkI:(k:Int)<l.length:=by omega
   obtain ⟨hx0,hx1⟩:=H0.out x (List.mem_of_getElem? hx)
   have htk:encInts (l.take (k+1))=encInts (l.take k) ++ numB x.toNat:=by rw [List.take_add_one,hx];exact encInts_app _ _
   have HTK:=Lib.hid htk
   obtain ⟨y,rfl⟩:=Int.eq_ofNat_of_zero_le hx0
   have hcx:IntKind.u64.wrap (y:Int)=(y:Int):=by simp only [IntKind.wrap,IntKind.bits,IntKind.signed];simp;omega
   have HNX:=Lib.hid (fun V=>r2Number_any y (by omega) V)
   have h9:(numB y).length≤9:=numB_9 (by omega)
   clear hx hc htk hx0
   go_wp2_with fail
   refine (HNX.out _).mono ?_
   rintro e w2 h2
   obtain ⟨A3,m3,c3,rfl,HS3,hb2⟩:=givesB_src h2
   have H2:=Lib.hid (HR.out.bel hb2)
   have hm3:m3≤9:=by rw [← HS3.out.1];exact h9
   clear h2 hb2 p0 h9 HNX HR
   go_wp2_with (at_builtin;refine app8 rfl (.tmp 15) (.tmp 21) rfl H2.out (by rfl) HS3.out (by rfl) (by omega) ?_;intro A10 c10 w10 H10)
   go_roundw
   case rel=>exact ⟨k+1,_,_,_,by omega,by omega,rfl,by go_num,by rw [HTK.out];have:=H10.out;rw [List.append_assoc] at this;exact this⟩
   case measure=>simp [intOf];omega
  ·obtain rfl:k=l.length:=by omega
   have HF:Hid (Row8 w w.heap.size nn (.slice A' nn c') (encList l) wr):=by
    have:=HR.out
    rw [List.take_length] at this
    exact this
   clear hlt hk
   go_wp2
   go_ret
   exact ⟨_,_,_,rfl,hnn,HF⟩
end
section
open Go.RowKit Go.Shelf Go.Lib
attribute [local go_sem] Oper.semAt_some
set_option maxRecDepth 100000 in
set_option maxHeartbeats 8000000 in
theorem r4EncodeSchema_any (vc vk vu:Value) (cols:List Col) (key:List Int) (uq:List (List Int)) (w:World) (hc:ColsAt w vc cols) (hk:IntsAt w vk key) (hu:ListsAt w vu uq) (hnm : ∀ c ∈ cols,c.name.size≤9223372036854775807) :
 Calls Tryz.prog 32 #[.agg #[vc,vk,vu]] w fun e w'=>∃ v,e = .returned (.tuple #[v,.int .i64 (encSR cols key uq).2])∧BsAt w' v (encSR cols key uq).1∧Bel w w':=by
 have hb0:Bel w (w.alloc (.cells #[vc,vk,vu] 27)):=(Bel.refl w).alloc _
 have HCK:=Lib.hid (tRight_any vc vk vu cols key uq _ (hc.bel hb0) (hk.bel hb0) (hu.bel hb0) hnm)
 unfold encSR
 cases hr:rightS cols key uq with
 | false =>
   rw [hr] at HCK
   have HCK:=HCK
   clear hc hk hu
   go_enter Tryz.func32,Tryz.ntmps32
   go_wp2_with fail
   refine HCK.out.mono ?_
   rintro e w4 ⟨rfl,hb4⟩
   go_wp2
   go_ret2
   exact ⟨_,rfl,⟨none,0,rfl,Nat.le_refl _,Nat.zero_le _,Reads.none_⟩,hb0.then_ hb4⟩
 | true =>
   rw [hr] at HCK
   rw [if_pos rfl]
   obtain ⟨hcol,hl1,hl8,⟨hkl,hks⟩,hul,huq⟩:=right_small hr
   have HCOL:=Lib.hid hcol
   have HKS:=Lib.hid (small_of hks)
   have HUQ:=Lib.hid huq
   have HK:=Lib.hid hk
   obtain ⟨Ac,cc,rfl,hcc,hmc,hrc⟩:=hc
   have HRC:=Lib.hid hrc
   obtain ⟨Ak,ck,rfl,-⟩:=hk
   obtain ⟨Au,cu,rfl,hru⟩:=lists_at hu
   have HRU:=Lib.hid hru
   have hcI:(cols.length:Int)≤8:=by omega
   have huI:(uq.length:Int)≤3:=by omega
   have HN:=Lib.hid (fun V=>r2Number_any cols.length (by omega) V)
   have h9:(numB cols.length).length≤9:=numB_9 (by omega)
   have hcv:IntKind.u64.wrap (cols.length:Int)=(cols.length:Int):=by simp only [IntKind.wrap,IntKind.bits,IntKind.signed];simp;omega
   have hcv2:IntKind.u64.wrap (uq.length:Int)=(uq.length:Int):=by simp only [IntKind.wrap,IntKind.bits,IntKind.signed];simp;omega
   clear hr hcol hks huq hu hcc hmc hrc hru
   go_enter Tryz.func32,Tryz.ntmps32
   go_wp2_with fail
   refine HCK.out.mono ?_
   rintro e w4 ⟨rfl,hb4⟩
   have HB4:=Lib.hid (hb0.then_ hb4)
   have q0:=hb4.c (p:=⟨w.heap.size,0,none⟩) (v:=.slice Ac cols.length cc) (by go_simp)
   have q1:=hb4.c (p:=⟨w.heap.size,1,none⟩) (v:=.slice Ak key.length ck) (by go_simp)
   have q2:=hb4.c (p:=⟨w.heap.size,2,none⟩) (v:=.slice Au uq.length cu) (by go_simp)
   have HC4:Hid (∀ V,Bel w4 V→V.cell? ⟨w.heap.size,0,none⟩=some (.slice Ac cols.length cc)∧V.cell? ⟨w.heap.size,1,none⟩=some (.slice Ak key.length ck)∧V.cell? ⟨w.heap.size,2,none⟩=some (.slice Au uq.length cu)):=fun V h=>⟨h.c q0,h.c q1,h.c q2⟩
   have hsz4:w.heap.size<w4.heap.size:=World.block_lt_of_cell? (w:=w4) (a:=⟨w.heap.size,0,none⟩) q0
   clear hb4 hb0 HCK
   go_wp2_with fail
   refine (HN.out _).mono ?_
   rintro e w5 h5
   obtain ⟨A5,m5,c5,rfl,H5,hb5⟩:=givesB_row (Bel.refl w4) h5
   have hm5:m5≤9:=by rw [← H5.out.1];exact h9
   obtain ⟨r0,r1,r2⟩:=HC4.out w5 hb5
   clear h5 hb5 h9 HN q0 q1 q2
   go_wp2
   clear r0 r1 r2
   go_loopw [4,5] (fun v i wr=>∃ (k nn:Nat) (A':Option Addr) (c':Nat),k≤cols.length∧nn≤9+60 * k∧v = .slice A' nn c'∧i = .int .i64 k∧Hid (Row8 w4 w4.heap.size nn (.slice A' nn c') (numB cols.length ++ encCols (cols.take k)) wr)) (fun v i _=>cols.length - (intOf i).toNat)
   case atStart=>exact ⟨0,_,_,_,Nat.zero_le _,by omega,rfl,rfl,by have:=H5.out;show Row8 _ _ _ _ (numB cols.length ++ []) _;rw [List.append_nil];exact this⟩
   case round =>
    obtain ⟨k,nn,A',c',hk,hnn,rfl,rfl,HR⟩:=hrel
    obtain ⟨r0,r1,r2⟩:=HC4.out wr HR.out.2.2.1
    by_cases hlt:k<cols.length
    ·obtain ⟨co,hco⟩ : ∃ co,cols[k]? = some co:=⟨_,List.getElem?_eq_getElem hlt⟩
     obtain ⟨bc,oc,rfl,hci⟩:=HRC.out (by omega)
     obtain ⟨p0,p1,p2,p3⟩:=hci k co hco
     have hbw:Bel w wr:=HB4.out.then_ HR.out.2.2.1
     have c0:=hbw.c p0
     have c1:=hbw.c p1
     have c2:=hbw.c p2
     have c3:=hbw.c p3
     have hkI:(k:Int)<cols.length:=by omega
     have htk:encCols (cols.take (k+1))=encCols (cols.take k) ++ encCol co:=by rw [List.take_add_one,hco];exact encCols_app _ _
     have HTK:=Lib.hid htk
     obtain ⟨g1,g2,g3,g4,g5⟩:=HCOL.out co (List.mem_of_getElem? hco)
     have HT:=Lib.hid (fun V=>r2Text_any co.name (by omega) V)
     have h33:=textB_len g5
     have hbcl:bc<wr.heap.size:=World.block_lt_of_cell? (w:=wr) (a:=⟨bc,oc+k * 4,none⟩) c0
     have hwsz:w.heap.size<wr.heap.size:=World.block_lt_of_cell? (w:=wr) (a:=⟨w.heap.size,0,none⟩) r0
     obtain ⟨cn,ct,cz,cnl⟩:=co
     dsimp only at *
     have hal:Bel wr (wr.alloc (.cells #[.string cn,.int .i64 ct,.int .i64 cz,.bool cnl] 67)):=(Bel.refl wr).alloc _
     have HAL:=Lib.hid hal
     obtain ⟨ctn,rfl⟩:=Int.eq_ofNat_of_zero_le (show 0≤ct by omega)
     obtain ⟨czn,rfl⟩:=Int.eq_ofNat_of_zero_le (show 0≤cz by omega)
     have hne0:wr.heap.size ≠ w.heap.size:=by omega
     clear hco hci p0 p1 p2 p3 hbw htk hal
     have HTN:=Lib.hid (fun V=>r2Number_any ctn (by omega) V)
     have h9t:(numB ctn).length≤9:=numB_9 (by omega)
     have hcvt:IntKind.u64.wrap (ctn:Int)=(ctn:Int):=by simp only [IntKind.wrap,IntKind.bits,IntKind.signed];simp;omega
     have hcvz:IntKind.u64.wrap (czn:Int)=(czn:Int):=by simp only [IntKind.wrap,IntKind.bits,IntKind.signed];simp;omega
     have HZN:=Lib.hid (fun V=>r2Number_any czn (by omega) V)
     have h9z:(numB czn).length≤9:=numB_9 (by omega)
     cases cnl
     ·have HALD:Hid (Bel wr (wr.alloc (.cells #[.string cn,.int .i64 (ctn:Int),.int .i64 (czn:Int),.bool false] 67)).drew):=HAL.out.drew
      have HBK:Hid ((wr.alloc (.cells #[.string cn,.int .i64 (ctn:Int),.int .i64 (czn:Int),.bool false] 67)).drew.heap[wr.heap.size]? = some (.cells #[.string cn,.int .i64 (ctn:Int),.int .i64 (czn:Int),.bool false] 67)):=World.alloc_heap_new wr _
      have HG6:Hid (Gap wr.heap.size (wr.heap.size+1) (.slice A' nn c')):=HR.out.gap _
      have HNN:=Lib.hid (fun V=>r2Number_any 0 (by omega) V)
      have h9n:(numB 0).length≤9:=numB_9 (by omega)
      go_wp2_with fail
      refine wp_region_noPanic ?_
      refine wp_region_held_drew (S:=(fun V:World=>V.cell? ⟨wr.heap.size,0,none⟩=some (.string cn)∧V.cell? ⟨wr.heap.size,1,none⟩=some (.int .i64 (ctn:Int))∧V.cell? ⟨wr.heap.size,2,none⟩=some (.int .i64 (czn:Int))∧V.cell? ⟨wr.heap.size,3,none⟩=some (.bool false))) (by kernel_rfl) ?_ (fun hHr1_0=>?_)
      ·(try dsimp only);(first | assumption | exact cells4 HBK.out | exact cells4 hbk | exact cells4 hbk9 | exact cells4 hbk10 | exact cells4 hbk11)
      refine tk 0 ?_
      refine tk 1 ?_
      refine tk 2 ?_
      refine tk 5 ?_
      refine tk 6 ?_
      refine tk 7 ?_
      refine rd1 3 (fun K hK=>?_)
      go_simp
      (go_at_call 69;refine (HT.out _).mono ?_;rintro e w6 h6;obtain ⟨A6,m6,c6,rfl,HS6,hb6⟩:=givesB_src h6;have hm6:m6≤33:=Nat.le_trans (Nat.le_of_eq HS6.out.1.symm) h33;have H6:=Lib.hid (HR.out.bel (HALD.out.then_ hb6));have hbk:=heap_bel hb6 HBK.out;have hs6:wr.heap.size+1≤w6.heap.size:=(Array.getElem?_eq_some_iff.1 hbk).1;clear h6)
      try (go_wp2_with fail)
      refine hK.out _ _ ?_ (fun hHr1_1=>?_)
      ·(try dsimp only);(first | assumption | exact cells4 HBK.out | exact cells4 hbk | exact cells4 hbk9 | exact cells4 hbk10 | exact cells4 hbk11)
      clear hK K hHr1_0
      try simp only [tkp0,tkp1,tkp2,tkp3,tkp4,tkp5,tkp6,tkp7]
      refine rd1 4 (fun K hK=>?_)
      rw [if_pos (by first | rfl | kernel_rfl)]
      (refine app8k (.tmp 31) (.tmp 34) rfl H6.out (by rfl) HS6.out (by rfl) (by omega) HG6.out hs6 ?_;intro A9 c9 w9 H9 HG9;have hbk9:=(HG9.out.2 wr.heap.size (Nat.le_refl _) (Nat.lt_succ_self _)).trans hbk)
      refine hK.out _ _ ?_ (fun hHr1_2=>?_)
      ·(try dsimp only);(first | assumption | exact cells4 HBK.out | exact cells4 hbk | exact cells4 hbk9 | exact cells4 hbk10 | exact cells4 hbk11)
      clear hK K hHr1_1
      try simp only [tkp0,tkp1,tkp2,tkp3,tkp4,tkp5,tkp6,tkp7]
      refine rd1 8 (fun K hK=>?_)
      go_simp
      (go_at_call 29;refine (HTN.out _).mono ?_;rintro e w10 h10;obtain ⟨A10,m10,c10,rfl,HS10,hb10⟩:=givesB_src h10;have hm10:m10≤9:=Nat.le_trans (Nat.le_of_eq HS10.out.1.symm) h9t;have H10:=Lib.hid (H9.out.bel hb10);have hbk10:=heap_bel hb10 hbk9;have hs10:wr.heap.size+1≤w10.heap.size:=(Array.getElem?_eq_some_iff.1 hbk10).1;clear h10)
      try (go_wp2_with fail)
      refine hK.out _ _ ?_ (fun hHr1_3=>?_)
      ·(try dsimp only);(first | assumption | exact cells4 HBK.out | exact cells4 hbk | exact cells4 hbk9 | exact cells4 hbk10 | exact cells4 hbk11)
      clear hK K hHr1_2
      try simp only [tkp0,tkp1,tkp2,tkp3,tkp4,tkp5,tkp6,tkp7]
      refine rd1 9 (fun K hK=>?_)
      rw [if_pos (by first | rfl | kernel_rfl)]
      (refine app8k (.tmp 35) (.tmp 39) rfl H10.out (by rfl) HS10.out (by rfl) (by omega) HG9.out.1 hs10 ?_;intro A11 c11 w11 H11 HG11;have hbk11:=(HG11.out.2 wr.heap.size (Nat.le_refl _) (Nat.lt_succ_self _)).trans hbk10)
      refine hK.out _ _ ?_ (fun hHr1_4=>?_)
      ·(try dsimp only);(first | assumption | exact cells4 HBK.out | exact cells4 hbk | exact cells4 hbk9 | exact cells4 hbk10 | exact cells4 hbk11)
      clear hK K hHr1_3
      try simp only [tkp0,tkp1,tkp2,tkp3,tkp4,tkp5,tkp6,tkp7]
      refine tk 10 ?_
      refine wpAnyH_done (by kernel_rfl) ?_ _
      refine NoPanic.normal ?_
      have H12:=H11
      obtain ⟨d0,d1,d2,d3⟩:=cells4 hbk11
      clear r0 r1 r2 c0 c1 c2 c3 HALD HBK HG6 HTN HT HS6 H6 HG9 H9 HS10 H10 HR
      go_wp2_with fail
      refine (HZN.out _).mono ?_
      rintro e w13 h13
      obtain ⟨A13,m13,c13,rfl,HS13,hb13⟩:=givesB_src h13
      have hm13:m13≤9:=by rw [← HS13.out.1];exact h9z
      have H13:=Lib.hid (H12.out.bel hb13)
      clear h13 hb13 d0 d1 d2 d3 HZN H12 H11 HG11
      go_wp2_with (at_builtin;refine app8 rfl (.tmp 41) (.tmp 45) rfl H13.out (by rfl) HS13.out (by rfl) (by omega) ?_;intro A14 c14 w14 H14)
      refine (HNN.out _).mono ?_
      rintro e w15 h15
      obtain ⟨A15,m15,c15,rfl,HS15,hb15⟩:=givesB_src h15
      have hm15:m15≤9:=by rw [← HS15.out.1];exact h9n
      have H15:=Lib.hid (H14.out.bel hb15)
      clear h15 hb15 HNN HS13 H13 H14
      go_wp2_with (at_builtin;refine app8 rfl (.tmp 46) (.tmp 48) rfl H15.out (by rfl) HS15.out (by rfl) (by omega) ?_;intro A16 c16 w16 H16)
      go_roundw
      case rel=>exact ⟨k+1,_,_,_,by omega,by omega,rfl,by go_num,by rw [HTK.out];have:=H16.out;simp only [encCol,List.append_assoc] at this ⊢;exact this⟩
      case measure=>simp [intOf];omega
     ·have HALD:Hid (Bel wr (wr.alloc (.cells #[.string cn,.int .i64 (ctn:Int),.int .i64 (czn:Int),.bool true] 67)).drew):=HAL.out.drew
      have HBK:Hid ((wr.alloc (.cells #[.string cn,.int .i64 (ctn:Int),.int .i64 (czn:Int),.bool true] 67)).drew.heap[wr.heap.size]? = some (.cells #[.string cn,.int .i64 (ctn:Int),.int .i64 (czn:Int),.bool true] 67)):=World.alloc_heap_new wr _
      have HG6:Hid (Gap wr.heap.size (wr.heap.size+1) (.slice A' nn c')):=HR.out.gap _
      have HNN:=Lib.hid (fun V=>r2Number_any 1 (by omega) V)
      have h9n:(numB 1).length≤9:=numB_9 (by omega)
      go_wp2_with fail
      refine wp_region_noPanic ?_
      refine wp_region_held_drew (S:=(fun V:World=>V.cell? ⟨wr.heap.size,0,none⟩=some (.string cn)∧V.cell? ⟨wr.heap.size,1,none⟩=some (.int .i64 (ctn:Int))∧V.cell? ⟨wr.heap.size,2,none⟩=some (.int .i64 (czn:Int))∧V.cell? ⟨wr.heap.size,3,none⟩=some (.bool true))) (by kernel_rfl) ?_ (fun hHr2_0=>?_)
      ·(try dsimp only);(first | assumption | exact cells4 HBK.out | exact cells4 hbk | exact cells4 hbk9 | exact cells4 hbk10 | exact cells4 hbk11)
      refine tk 0 ?_
      refine tk 1 ?_
      refine tk 2 ?_
      refine tk 5 ?_
      refine tk 6 ?_
      refine tk 7 ?_
      refine rd1 3 (fun K hK=>?_)
      go_simp
      (go_at_call 69;refine (HT.out _).mono ?_;rintro e w6 h6;obtain ⟨A6,m6,c6,rfl,HS6,hb6⟩:=givesB_src h6;have hm6:m6≤33:=Nat.le_trans (Nat.le_of_eq HS6.out.1.symm) h33;have H6:=Lib.hid (HR.out.bel (HALD.out.then_ hb6));have hbk:=heap_bel hb6 HBK.out;have hs6:wr.heap.size+1≤w6.heap.size:=(Array.getElem?_eq_some_iff.1 hbk).1;clear h6)
      try (go_wp2_with fail)
      refine hK.out _ _ ?_ (fun hHr2_1=>?_)
      ·(try dsimp only);(first | assumption | exact cells4 HBK.out | exact cells4 hbk | exact cells4 hbk9 | exact cells4 hbk10 | exact cells4 hbk11)
      clear hK K hHr2_0
      try simp only [tkp0,tkp1,tkp2,tkp3,tkp4,tkp5,tkp6,tkp7]
      refine rd1 4 (fun K hK=>?_)
      rw [if_pos (by first | rfl | kernel_rfl)]
      (refine app8k (.tmp 31) (.tmp 34) rfl H6.out (by rfl) HS6.out (by rfl) (by omega) HG6.out hs6 ?_;intro A9 c9 w9 H9 HG9;have hbk9:=(HG9.out.2 wr.heap.size (Nat.le_refl _) (Nat.lt_succ_self _)).trans hbk)
      refine hK.out _ _ ?_ (fun hHr2_2=>?_)
      ·(try dsimp only);(first | assumption | exact cells4 HBK.out | exact cells4 hbk | exact cells4 hbk9 | exact cells4 hbk10 | exact cells4 hbk11)
      clear hK K hHr2_1
      try simp only [tkp0,tkp1,tkp2,tkp3,tkp4,tkp5,tkp6,tkp7]
      refine rd1 8 (fun K hK=>?_)
      go_simp
      (go_at_call 29;refine (HTN.out _).mono ?_;rintro e w10 h10;obtain ⟨A10,m10,c10,rfl,HS10,hb10⟩:=givesB_src h10;have hm10:m10≤9:=Nat.le_trans (Nat.le_of_eq HS10.out.1.symm) h9t;have H10:=Lib.hid (H9.out.bel hb10);have hbk10:=heap_bel hb10 hbk9;have hs10:wr.heap.size+1≤w10.heap.size:=(Array.getElem?_eq_some_iff.1 hbk10).1;clear h10)
      try (go_wp2_with fail)
      refine hK.out _ _ ?_ (fun hHr2_3=>?_)
      ·(try dsimp only);(first | assumption | exact cells4 HBK.out | exact cells4 hbk | exact cells4 hbk9 | exact cells4 hbk10 | exact cells4 hbk11)
      clear hK K hHr2_2
      try simp only [tkp0,tkp1,tkp2,tkp3,tkp4,tkp5,tkp6,tkp7]
      refine rd1 9 (fun K hK=>?_)
      rw [if_pos (by first | rfl | kernel_rfl)]
      (refine app8k (.tmp 35) (.tmp 39) rfl H10.out (by rfl) HS10.out (by rfl) (by omega) HG9.out.1 hs10 ?_;intro A11 c11 w11 H11 HG11;have hbk11:=(HG11.out.2 wr.heap.size (Nat.le_refl _) (Nat.lt_succ_self _)).trans hbk10)
      refine hK.out _ _ ?_ (fun hHr2_4=>?_)
      ·(try dsimp only);(first | assumption | exact cells4 HBK.out | exact cells4 hbk | exact cells4 hbk9 | exact cells4 hbk10 | exact cells4 hbk11)
      clear hK K hHr2_3
      try simp only [tkp0,tkp1,tkp2,tkp3,tkp4,tkp5,tkp6,tkp7]
      refine tk 10 ?_
      refine wpAnyH_done (by kernel_rfl) ?_ _
      refine NoPanic.normal ?_
      have H12:=H11
      obtain ⟨d0,d1,d2,d3⟩:=cells4 hbk11
      clear r0 r1 r2 c0 c1 c2 c3 HALD HBK HG6 HTN HT HS6 H6 HG9 H9 HS10 H10 HR
      go_wp2_with fail
      refine (HZN.out _).mono ?_
      rintro e w13 h13
      obtain ⟨A13,m13,c13,rfl,HS13,hb13⟩:=givesB_src h13
      have hm13:m13≤9:=by rw [← HS13.out.1];exact h9z
      have H13:=Lib.hid (H12.out.bel hb13)
      clear h13 hb13 d0 d1 d2 d3 HZN H12 H11 HG11
      go_wp2_with (at_builtin;refine app8 rfl (.tmp 41) (.tmp 45) rfl H13.out (by rfl) HS13.out (by rfl) (by omega) ?_;intro A14 c14 w14 H14)
      refine (HNN.out _).mono ?_
      rintro e w15 h15
      obtain ⟨A15,m15,c15,rfl,HS15,hb15⟩:=givesB_src h15
      have hm15:m15≤9:=by rw [← HS15.out.1];exact h9n
      have H15:=Lib.hid (H14.out.bel hb15)
      clear h15 hb15 HNN HS13 H13 H14
      go_wp2_with (at_builtin;refine app8 rfl (.tmp 46) (.tmp 48) rfl H15.out (by rfl) HS15.out (by rfl) (by omega) ?_;intro A16 c16 w16 H16)
      go_roundw
      case rel=>exact ⟨k+1,_,_,_,by omega,by omega,rfl,by go_num,by rw [HTK.out];have:=H16.out;simp only [encCol,List.append_assoc] at this ⊢;exact this⟩
      case measure=>simp [intOf];omega
    ·obtain rfl:k=cols.length:=by omega
     have HR1:Hid (Row8 w4 w4.heap.size nn (.slice A' nn c') (numB cols.length ++ encCols cols) wr):=by
      have:=HR.out
      rw [List.take_length] at this
      exact this
     clear hlt hk HR
     have hnn2:nn≤600:=by omega
     have HNU:=Lib.hid (fun V=>r2Number_any uq.length (by omega) V)
     have h9u:(numB uq.length).length≤9:=numB_9 (by omega)
     have HKN:=Lib.hid (fun V (h:Bel w V)=>r4numbers_any (.slice Ak key.length ck) key w V HK.out HKS.out (by omega) h)
     go_wp2_with fail
     refine wp_region_noPanic ?_
     refine wp_region_held_drew (S:=(fun V:World=>V.cell? ⟨w.heap.size,0,none⟩=some (.slice Ac cols.length cc)∧V.cell? ⟨w.heap.size,1,none⟩=some (.slice Ak key.length ck)∧V.cell? ⟨w.heap.size,2,none⟩=some (.slice Au uq.length cu))) (by kernel_rfl) ?_ (fun hHr3_0=>?_)
     ·(try dsimp only);(first | assumption | exact HC4.out _ HR1.out.2.2.1.drew | exact HC4.out _ H7.out.2.2.1 | exact HC4.out _ H8.out.2.2.1 | exact HC4.out _ H10.out.2.2.1 | exact HC4.out _ H12.out.2.2.1)
     refine tk 0 ?_
     refine tk 1 ?_
     refine tk 2 ?_
     refine tk 5 ?_
     refine tk 6 ?_
     refine tk 7 ?_
     refine tk 8 ?_
     refine rd1 3 (fun K hK=>?_)
     go_simp
     (go_at_call 71;refine (HKN.out _ (HB4.out.then_ HR1.out.2.2.1.drew)).mono ?_;rintro e w7 ⟨A7,n7,c7,rfl,hn7,HN7⟩;have HS7:=Lib.hid HN7.out.src;have H7:=Lib.hid (HR1.out.bel ((Bel.refl wr).drew.then_ HN7.out.2.2.1)))
     try (go_wp2_with fail)
     refine hK.out _ _ ?_ (fun hHr3_1=>?_)
     ·(try dsimp only);(first | assumption | exact HC4.out _ HR1.out.2.2.1.drew | exact HC4.out _ H7.out.2.2.1 | exact HC4.out _ H8.out.2.2.1 | exact HC4.out _ H10.out.2.2.1 | exact HC4.out _ H12.out.2.2.1)
     clear hK K hHr3_0
     try simp only [tkp0,tkp1,tkp2,tkp3,tkp4,tkp5,tkp6,tkp7]
     refine rd1 4 (fun K hK=>?_)
     rw [if_pos (by first | rfl | kernel_rfl)]
     (refine app8k (lo:=0) (hi:=0) (.tmp 50) (.tmp 53) rfl H7.out (by rfl) HS7.out (by rfl) (by omega) (fun _ _=>.inr (Nat.zero_le _)) (Nat.zero_le _) ?_;intro A8 c8 w8 H8 _)
     refine hK.out _ _ ?_ (fun hHr3_2=>?_)
     ·(try dsimp only);(first | assumption | exact HC4.out _ HR1.out.2.2.1.drew | exact HC4.out _ H7.out.2.2.1 | exact HC4.out _ H8.out.2.2.1 | exact HC4.out _ H10.out.2.2.1 | exact HC4.out _ H12.out.2.2.1)
     clear hK K hHr3_1
     try simp only [tkp0,tkp1,tkp2,tkp3,tkp4,tkp5,tkp6,tkp7]
     refine rd1 9 (fun K hK=>?_)
     go_simp
     (go_at_call 29;refine (HNU.out _).mono ?_;rintro e w10 h10;obtain ⟨A10,m10,c10,rfl,HS10,hb10⟩:=givesB_src h10;have hm10:m10≤9:=Nat.le_trans (Nat.le_of_eq HS10.out.1.symm) h9u;have H10:=Lib.hid (H8.out.bel hb10);clear h10)
     try (go_wp2_with fail)
     refine hK.out _ _ ?_ (fun hHr3_3=>?_)
     ·(try dsimp only);(first | assumption | exact HC4.out _ HR1.out.2.2.1.drew | exact HC4.out _ H7.out.2.2.1 | exact HC4.out _ H8.out.2.2.1 | exact HC4.out _ H10.out.2.2.1 | exact HC4.out _ H12.out.2.2.1)
     clear hK K hHr3_2
     try simp only [tkp0,tkp1,tkp2,tkp3,tkp4,tkp5,tkp6,tkp7]
     refine rd1 10 (fun K hK=>?_)
     rw [if_pos (by first | rfl | kernel_rfl)]
     (refine app8k (lo:=0) (hi:=0) (.tmp 54) (.tmp 59) rfl H10.out (by rfl) HS10.out (by rfl) (by omega) (fun _ _=>.inr (Nat.zero_le _)) (Nat.zero_le _) ?_;intro A12 c12 w12 H12 _)
     refine hK.out _ _ ?_ (fun hHr3_4=>?_)
     ·(try dsimp only);(first | assumption | exact HC4.out _ HR1.out.2.2.1.drew | exact HC4.out _ H7.out.2.2.1 | exact HC4.out _ H8.out.2.2.1 | exact HC4.out _ H10.out.2.2.1 | exact HC4.out _ H12.out.2.2.1)
     clear hK K hHr3_3
     try simp only [tkp0,tkp1,tkp2,tkp3,tkp4,tkp5,tkp6,tkp7]
     refine tk 11 ?_
     refine wpAnyH_done (by kernel_rfl) ?_ _
     refine NoPanic.normal ?_
     have H13:=H12
     clear r0 r1 r2 HR1 HKN HNU HN7 HS7 H7 H8 HS10 H10
     go_wp2
     go_loopw [4,8] (fun v i wi=>∃ (j n2:Nat) (A2:Option Addr) (c2:Nat),j≤uq.length∧n2≤700+100 * j∧v = .slice A2 n2 c2∧i = .int .i64 j∧Hid (Row8 w4 w4.heap.size n2 (.slice A2 n2 c2) ((((numB cols.length ++ encCols cols) ++ encList key) ++ numB uq.length) ++ encLists (uq.take j)) wi)) (fun v i _=>uq.length - (intOf i).toNat)
     case atStart=>exact ⟨0,_,_,_,Nat.zero_le _,by omega,rfl,rfl,by have:=H13.out;show Row8 _ _ _ _ (_ ++ []) _;rw [List.append_nil];exact this⟩
     case round =>
      obtain ⟨j,n2,A2,c2,hj,hn2,rfl,rfl,HRI⟩:=hrel
      obtain ⟨r0,r1,r2⟩:=HC4.out wr HRI.out.2.2.1
      by_cases hju:j<uq.length
      ·obtain ⟨l,hl⟩ : ∃ l,uq[j]? = some l:=⟨_,List.getElem?_eq_getElem hju⟩
       obtain ⟨bu,ou,u,rfl,hu0,hul0⟩:=HRU.out j l hl
       have hbwr:=HB4.out.then_ HRI.out.2.2.1
       have p0:=hbwr.c hu0
       have hjI:(j:Int)<uq.length:=by omega
       obtain ⟨hl4,hls⟩:=HUQ.out l (List.mem_of_getElem? hl)
       have hti:encLists (uq.take (j+1))=encLists (uq.take j) ++ encList l:=by rw [List.take_add_one,hl];exact encLists_app _ _
       have HTI:=Lib.hid hti
       have HLI:=Lib.hid (r4numbers_any u l w wr hul0 (small_of hls) (by omega) hbwr)
       clear hl hu0 hul0 hti hls hbwr
       go_wp2_with fail
       refine HLI.out.mono ?_
       rintro e w10 ⟨A10,n10,c10,rfl,hn10,HN10⟩
       have HS10:=Lib.hid HN10.out.src
       have H10:=Lib.hid (HRI.out.bel HN10.out.2.2.1)
       clear p0 HLI HN10 HRI r0 r1 r2
       go_wp2_with (at_builtin;refine app8 rfl (.tmp 68) (.tmp 74) rfl H10.out (by rfl) HS10.out (by rfl) (by omega) ?_;intro A11 c11 w11 H11)
       go_roundw
       case rel=>exact ⟨j+1,_,_,_,by omega,by omega,rfl,by go_num,by rw [HTI.out];have:=H11.out;simp only [List.append_assoc] at this ⊢;exact this⟩
       case measure=>simp [intOf];omega
      ·obtain rfl:j=uq.length:=by omega
       have HF:Hid (Row8 w4 w4.heap.size n2 (.slice A2 n2 c2) (encSch cols key uq) wr):=by
        have:=HRI.out
        rw [List.take_length] at this
        unfold encSch
        simp only [List.append_assoc] at this
        exact this
       clear hju hj HRI
       obtain ⟨v,hv,hvb,hbv⟩:=HF.out.gives
       have HV:=Lib.hid (And.intro hvb (HB4.out.then_ hbv))
       clear hvb hbv
       go_wp2
       go_ret2
       exact ⟨_,rfl,by rw [hv];exact HV.out.1,HV.out.2⟩
end
end Go.Proofs.YtnajjhgbombboaaGreatDoor
