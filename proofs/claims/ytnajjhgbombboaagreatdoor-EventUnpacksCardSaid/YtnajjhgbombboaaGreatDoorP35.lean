/-
  Texts behind the statement: part 35.
-/
import Derived.Test.YtnajjhgbombboaaGreatDoorP19
import Derived.Test.YtnajjhgbombboaaGreatDoorP34
import Derived.Deep.DeepCutAuto
set_option linter.unusedVariables false
set_option linter.unusedSimpArgs false
namespace Go.Proofs.YtnajjhgbombboaaGreatDoor
section
open Go.RowKit Go.Lib
theorem src8_one (V:World) (c:UInt8):Src8 1 (some ⟨V.heap.size,0,none⟩) [c] (V.alloc (.cells #[bv c] 5)) :=
 ⟨rfl,by have:=reads1 V 5 (bv c);simpa using this⟩
set_option maxRecDepth 100000 in
theorem app8s {ops:Array Oper} {rest:List Oper} {o:Oper} {a:Act} {Q:Exit→Act→World→Prop} {w:World} (hgd:o.guard=none) (s x:Operand) (ho:o.op = .call { callee:=.builtin .append,args:=#[s,x],argTypes:=#[34,9] })
  {w0:World} {base n:Nat} {A:Option Addr} {c:Nat} {l:List UInt8} (H:Row8 w0 base n (.slice A n c) l w) (hs:a.eval s = .slice A n c) (y:ByteArray) (hx:a.eval x = .string y) {m:Nat} {yl:List UInt8} (hym:y.size=m) (hyl:y.data.toList=yl) (hm:n+m≤1000000)
  (h : ∀ A' c' w',Hid (Row8 w0 base (n+m) (.slice A' (n+m) c') (l ++ yl) w')→wpList Tryz.prog ops Q rest (a.put o.dst (.slice A' (n+m) c')) w'):wpList Tryz.prog ops Q (o :: rest) a w:=by
 subst hym hyl
 obtain ⟨i0,hi0,hz0,hz1,hz2⟩:=info_parts infoU8
 obtain ⟨h1,h2,h3,h4,h5⟩:=H
 refine Lib.wpList_append_own_string w hgd s x 34 9 ho base 5 i0 Tryz.underlying34 Tryz.underlying9 hi0 hz0 hz1 hz2 _ n _ hs h2 y hx (by unfold maxLen;omega) (by omega) h5 ?_
 intro v' w' ho' hg hat
 obtain ⟨A',c',rfl⟩:=row_form ho'
 refine h A' c' w' ⟨by rw [List.length_append,h1];rfl,by rw [List.map_append,← strCells_map];exact ho',Below.grown h3 hg h3.size (fun j e=>Nat.le_trans h4 (h2.lt j e).1),h4,Nat.le_trans h5 hg.size⟩
theorem Row8.lower {w0 w:World} {base n:Nat} {v:Value} {t:List UInt8} {V:World} (h:Row8 w0 base n v t V) (hb:Bel w w0):Row8 w base n v t V :=
 ⟨h.1,h.2.1,hb.then_ h.2.2.1,Nat.le_trans hb.size h.2.2.2.1,h.2.2.2.2⟩
set_option maxRecDepth 100000 in
theorem app8z {ops:Array Oper} {rest:List Oper} {o:Oper} {a:Act} {Q:Exit→Act→World→Prop} {w:World} (hgd:o.guard=none) (s x:Operand) (ho:o.op = .call { callee:=.builtin .append,args:=#[s,x],argTypes:=#[34,3] })
  {w0:World} {base n:Nat} {A:Option Addr} {c:Nat} {l:List UInt8} (H:Row8 w0 base n (.slice A n c) l w) (hs:a.eval s = .slice A n c) (k:Nat) (hx:a.eval x = .int .i64 k) (hm:n+k≤1000000)
  (h : ∀ A' c' w',Hid (Row8 w0 base (n+k) (.slice A' (n+k) c') (l ++ zeros k) w')→wpList Tryz.prog ops Q rest (a.put o.dst (.slice A' (n+k) c')) w'):wpList Tryz.prog ops Q (o :: rest) a w:=by
 obtain ⟨i0,hi0,hz0,hz1,hz2⟩:=info_parts infoU8
 obtain ⟨h1,h2,h3,h4,h5⟩:=H
 obtain ⟨v',w',hr,ho',hg⟩:=run_append_own_zeros (P:=Tryz.prog) w base 34 3 o.type 5 i0 .i64 Tryz.underlying34 Tryz.underlying3 hi0 hz0 hz1 hz2 _ n _ h2 k (by omega) (by unfold maxLen;omega) (by omega) h5
 obtain ⟨A',c',rfl⟩:=row_form ho'
 refine Lib.wpList_append_run w hgd s x 34 3 ho _ _ hs hx _ _ hr ?_
 exact h A' c' w' ⟨by rw [List.length_append,h1];simp [zeros],by rw [List.map_append,zrow_map];exact ho',Below.grown h3 hg h3.size (fun j e=>Nat.le_trans h4 (h2.lt j e).1),h4,Nat.le_trans h5 hg.size⟩
set_option maxRecDepth 100000 in
set_option maxHeartbeats 2000000 in
theorem krOne_null (w:World):Calls Tryz.prog 70 #[.agg #[.int .i64 0,.int .i64 0,.int .u64 0,.string ⟨#[]⟩]] w (GivesB [0] w):=by
 go_enter Tryz.func70,Tryz.ntmps70
 go_wp2
 go_ret
 have H:=row8_one ((Bel.refl w).alloc (.cells #[.int .i64 0,.int .i64 0,.int .u64 0,.string ⟨#[]⟩] 64)) 0
 rw [World.size_alloc] at H
 exact H.givesB
set_option maxRecDepth 100000 in
set_option maxHeartbeats 2000000 in
theorem krOne_int (n:Int) (h1 : -9223372036854775808≤n) (h2:n≤9223372036854775807) (w:World):Calls Tryz.prog 70 #[.agg #[.int .i64 1,.int .i64 n,.int .u64 0,.string ⟨#[]⟩]] w (GivesB (1 :: beN (n+9223372036854775808).toNat 8) w):=by
 have hx:=xor_sign h1 h2
 have hU:(n+9223372036854775808).toNat<2 ^ 64:=by omega
 generalize (n+9223372036854775808).toNat=U at *
 have hB:=beN_length U 8
 clear h1 h2
 go_enter Tryz.func70,Tryz.ntmps70
 go_wp2
 have H0:=row8_one ((Bel.refl w).alloc (.cells #[.int .i64 1,.int .i64 n,.int .u64 0,.string ⟨#[]⟩] 64)) 1
 rw [World.size_alloc] at H0
 have H1:=Lib.hid H0
 clear H0
 go_loopw [3,5] (fun v i wr=>∃ (k:Nat) (A:Option Addr) (c:Nat),k≤8∧v = .slice A (1+k) c∧i = .int .i64 (7 - k)∧Hid (Row8 w (w.heap.size+1) (1+k) (.slice A (1+k) c) (1 :: (beN U 8).take k) wr)) (fun _ i _=>(intOf i+1).toNat)
 case atStart=>exact ⟨0,_,_,by omega,rfl,by simp,H1⟩
 case round =>
  obtain ⟨k,A,c,hk,rfl,rfl,HR⟩:=hrel
  by_cases hlt:k<8
  ·obtain ⟨j,hj⟩ : ∃ j:Nat,(7:Int) - k=j:=⟨7 - k,by omega⟩
   have hj8:j<8:=by omega
   have hnext:(1 :: (beN U 8).take k) ++ [UInt8.ofNat (U / 256 ^ j % 256)]=1 :: (beN U 8).take (k+1):=by
    rw [List.take_add_one,beN_at U 8 k hlt]
    have : 8 - 1 - k=j:=by omega
    rw [this]
    rfl
   have HN:=Lib.hid hnext
   have hval:(.int .u8 ((U:Int) / 2 ^ (8 * j) % 256):Value)=bv (UInt8.ofNat (U / 256 ^ j % 256)):=by
    rw [bv_lit _ (Nat.mod_lt _ (by decide))]
    have e:(256:Nat) ^ j=2 ^ (8 * j):=by rw [Nat.pow_mul]
    rw [e]
    simp
   have HS:=Lib.hid (fun V:World=>by have:=src8_one V (UInt8.ofNat (U / 256 ^ j % 256));rw [← hval] at this;exact this)
   clear hnext hval
   rw [hj]
   go_wp2_with (at_builtin;refine app8 rfl (.tmp 24) (.tmp 31) rfl (HR.out.alloc _) (by rfl) (HS.out wr) (by rfl) (by omega) ?_;intro A10 c10 w10 H10)
   go_roundw
   case rel=>exact ⟨k+1,_,_,by omega,rfl,by go_num,by have:=H10.out;rw [HN.out] at this;exact this⟩
   case measure=>first | (simp [intOf];done) | (simp [intOf];omega)
  ·obtain rfl:k=8:=by omega
   go_wp2
   go_ret
   have:=HR.out
   rw [List.take_of_length_le (by omega)] at this
   exact this.givesB
set_option maxRecDepth 100000 in
set_option maxHeartbeats 2000000 in
theorem krOne_uint (u:Nat) (hu:u<2 ^ 64) (w:World):Calls Tryz.prog 70 #[.agg #[.int .i64 2,.int .i64 0,.int .u64 u,.string ⟨#[]⟩]] w (GivesB (2 :: numB u) w):=by
 have HN:=Lib.hid (fun V=>r2Number_any u hu V)
 have h9:(numB u).length≤9:=numB_9 hu
 go_enter Tryz.func70,Tryz.ntmps70
 go_wp2_with fail
 have H0:=row8_one ((Bel.refl w).alloc (.cells #[.int .i64 2,.int .i64 0,.int .u64 u,.string ⟨#[]⟩] 64)) 2
 rw [World.size_alloc] at H0
 have H1:=Lib.hid H0
 clear H0
 refine (HN.out _).mono ?_
 rintro e w1 h1
 obtain ⟨A2,m,c2,rfl,HS,hb1⟩:=givesB_src h1
 have H2:=Lib.hid (H1.out.bel hb1)
 have hm9:m≤9:=by rw [← HS.out.1];exact h9
 clear h1 hb1 h9 HN H1
 go_wp2_with (at_builtin;refine app8 rfl (.tmp 35) (.tmp 38) rfl H2.out (by rfl) HS.out (by rfl) (by omega) ?_;intro A10 c10 w10 H10)
 go_ret
 exact H10.out.givesB
set_option maxRecDepth 100000 in
set_option maxHeartbeats 2000000 in
theorem krOne_bool (n:Nat) (hn:n≤1) (w:World):Calls Tryz.prog 70 #[.agg #[.int .i64 3,.int .i64 n,.int .u64 0,.string ⟨#[]⟩]] w (GivesB [3,UInt8.ofNat n] w):=by
 have hv:(.int .u8 (n:Int):Value)=bv (UInt8.ofNat n):=by rw [bv_lit _ (by omega)]
 have HS:=Lib.hid (fun (V:World) (g:Nat) (hg:V.heap.size=g)=>by have:=src8_one V (UInt8.ofNat n);rw [← hv,hg] at this;exact this)
 clear hv
 have H0:=row8_one ((Bel.refl w).alloc (.cells #[.int .i64 3,.int .i64 n,.int .u64 0,.string ⟨#[]⟩] 64)) 3
 rw [World.size_alloc] at H0
 have H1:=Lib.hid H0
 clear H0
 go_enter Tryz.func70,Tryz.ntmps70
 go_wp2_with (at_builtin;refine app8 rfl (.tmp 42) (.tmp 46) rfl (H1.out.alloc _) (by rfl) (HS.out _ _ (by simp)) rfl (by omega) ?_;intro A10 c10 w10 H10)
 go_ret
 exact H10.out.givesB
theorem ext_list (b:ByteArray) (i j:Nat):(b.extract i j).data.toList=(b.data.toList.drop i).take (j - i):=by
 rw [ByteArray.data_extract,Array.toList_extract]
set_option maxRecDepth 100000 in
set_option maxHeartbeats 4000000 in
theorem krOne_bytes (b:ByteArray) (hb:b.size≤200) (w:World):Calls Tryz.prog 70 #[.agg #[.int .i64 4,.int .i64 0,.int .u64 0,.string b]] w (GivesB (4 :: grp b.data.toList) w):=by
 obtain ⟨s,hs⟩ : ∃ s,s=b.data.toList:=⟨_,rfl⟩
 have hl:s.length=b.size:=by rw [hs];rfl
 have hbI:(b.size:Int)≤200:=by omega
 have HE:=Lib.hid (fun i j=>ext_list b i j)
 rw [← hs] at HE ⊢
 have HW:=Lib.hid ((Bel.refl w).alloc (.cells #[.int .i64 4,.int .i64 0,.int .u64 0,.string b] 64))
 have H0:=row8_one (Bel.refl (w.alloc (.cells #[.int .i64 4,.int .i64 0,.int .u64 0,.string b] 64))) 4
 rw [World.size_alloc] at H0
 have H1:=Lib.hid H0
 have P3:Hid ((w.alloc (.cells #[.int .i64 4,.int .i64 0,.int .u64 0,.string b] 64)).cell? ⟨w.heap.size,3,none⟩=some (.string b)):=Lib.hid ((Blk.new w 64 #[.int .i64 4,.int .i64 0,.int .u64 0,.string b]).cell 3)
 have H9:Hid (∀ (V:World) (g:Nat),V.heap.size=g→Src8 1 (some ⟨g,0,none⟩) [9] (V.alloc (.cells #[.int .u8 9] 5))):=Lib.hid (fun V g hg=>by subst hg;exact src8_one V 9)
 clear H0 hs
 go_enter Tryz.func70,Tryz.ntmps70
 go_wp2
 generalize hW0:w.alloc (.cells #[.int .i64 4,.int .i64 0,.int .u64 0,.string b] 64)=W0 at *
 go_loopw [3,6] (fun v i wr=>∃ (k:Nat) (A:Option Addr) (c:Nat),k≤grpQ s∧v = .slice A (1+9 * k) c∧i = .int .i64 (8 * (k:Int))∧Hid (Row8 W0 (w.heap.size+1) (1+9 * k) (.slice A (1+9 * k) c) (4 :: grpPre s k) wr)) (fun _ i _=>1000 - (intOf i).toNat)
 case atStart=>exact ⟨0,_,_,by omega,rfl,by simp,H1⟩
 case round =>
  obtain ⟨k,A,c,hk,rfl,rfl,HR⟩:=hrel
  have p3:=HR.out.2.2.1.c P3.out
  have hk200:grpQ s≤25:=by unfold grpQ;omega
  by_cases hlt:k<grpQ s
  ·have hq : 8 * k+8<b.size:=by unfold grpQ at hlt;omega
   have hqI : 8 * (k:Int)+8<b.size:=by omega
   have HZ:Hid ((b.extract (8 * k) (8 * k+8)).size=8):=Lib.hid (by rw [ByteArray.size_extract];omega)
   have HD:Hid ((b.extract (8 * k) (8 * k+8)).data.toList=(s.drop (8 * k)).take 8):=Lib.hid (by rw [HE.out];congr 1;omega)
   go_wp2_with (first
    | (at_builtin;refine app8s rfl (.tmp 58) (.tmp 65) rfl HR.out (by rfl) (b.extract (8 * k) (8 * k+8)) (by rfl) HZ.out HD.out (by omega) ?_;intro A10 c10 w10 H10)
    | (at_builtin;refine app8z rfl (.tmp 66) (.tmp 68) rfl H10.out (by rfl) 0 (by rfl) (by omega) ?_;intro A11 c11 w11 H11;have p11:=H11.out.2.2.1.c P3.out)
    | (at_builtin;refine app8 rfl (.tmp 77) (.tmp 78) rfl (H11.out.alloc _) (by rfl) (H9.out _ _ rfl) rfl (by omega) ?_;intro A12 c12 w12 H12))
   have e9 : 1+9 * (k+1)=1+9 * k+8+0+1:=by omega
   refine ⟨⟨k+1,A12,c12,by omega,by rw [e9],by go_num,?_⟩,by simp [intOf];omega⟩
   have:=H12.out
   rw [← e9] at this
   rw [grpPre_succ]
   unfold grpAt
   exact Lib.hid (by simpa [zeros] using this)
  ·obtain rfl:k=grpQ s:=by omega
   obtain ⟨r,hr⟩ : ∃ r,r=b.size - 8 * grpQ s:=⟨_,rfl⟩
   have hq : 8 * grpQ s≤b.size:=by unfold grpQ;omega
   have hr8:r≤8:=by unfold grpQ at hr;omega
   by_cases h8:r=8
   ·subst h8
    have hrI:(b.size:Int) - 8 * (grpQ s:Int)=(8:Int):=by omega
    have htn:(8 * (grpQ s:Int)+(8:Int)).toNat=8 * grpQ s+8:=by omega
    have hz:(8:Int) - (8:Int)=((8 - 8:Nat):Int):=by omega
    have hno : ¬ (8 * (grpQ s:Int)+(8:Int)<b.size):=by omega
    have HZ:Hid ((b.extract (8 * grpQ s) (8 * grpQ s+8)).size=8):=Lib.hid (by rw [ByteArray.size_extract];omega)
    have HD:Hid ((b.extract (8 * grpQ s) (8 * grpQ s+8)).data.toList=s.drop (8 * grpQ s)):=Lib.hid (by rw [HE.out,List.take_of_length_le (by rw [List.length_drop];omega)])
    have HV:Hid (∀ (V:World) (g:Nat),V.heap.size=g→Src8 1 (some ⟨g,0,none⟩) [UInt8.ofNat 8] (V.alloc (.cells #[.int .u8 (8:Int)] 5))):=Lib.hid (fun V g hg=>by subst hg;have:=src8_one V (UInt8.ofNat 8);rw [bv_lit _ (by omega)] at this;exact this)
    have HG:Hid (4 :: grpPre s (grpQ s) ++ s.drop (8 * grpQ s) ++ zeros (8 - 8) ++ [UInt8.ofNat 8]=4 :: grp s):=Lib.hid (by
     have hdl:(s.drop (8 * grpQ s)).length=8:=by rw [List.length_drop];omega
     unfold grp grpLast
     rw [hdl]
     simp)
    clear hr hq hlt hk
    generalize hqq:grpQ s=q at *
    go_wp2_with (first
     | (at_builtin;refine app8s rfl (.tmp 58) (.tmp 65) rfl HR.out (by rfl) (b.extract (8 * q) (8 * q+8)) (by rfl) HZ.out HD.out (by omega) ?_;intro A10 c10 w10 H10)
     | (at_builtin;refine app8z rfl (.tmp 66) (.tmp 68) rfl H10.out (by rfl) (8 - 8) (by rfl) (by omega) ?_;intro A11 c11 w11 H11;have p11:=H11.out.2.2.1.c P3.out)
     | (at_builtin;refine app8 rfl (.tmp 80) (.tmp 83) rfl (H11.out.alloc _) (by rfl) (HV.out _ _ rfl) rfl (by omega) ?_;intro A12 c12 w12 H12))
    go_ret
    have:=H12.out
    rw [HG.out] at this
    exact (this.lower HW.out).givesB
   ·have hr8l:(r:Int)<8:=by omega
    have hrI:(b.size:Int) - 8 * (grpQ s:Int)=(r:Int):=by omega
    have htn:(8 * (grpQ s:Int)+(r:Int)).toNat=8 * grpQ s+r:=by omega
    have hz:(8:Int) - (r:Int)=((8 - r:Nat):Int):=by omega
    have hno : ¬ (8 * (grpQ s:Int)+(r:Int)<b.size):=by omega
    have HZ:Hid ((b.extract (8 * grpQ s) (8 * grpQ s+r)).size=r):=Lib.hid (by rw [ByteArray.size_extract];omega)
    have HD:Hid ((b.extract (8 * grpQ s) (8 * grpQ s+r)).data.toList=s.drop (8 * grpQ s)):=Lib.hid (by rw [HE.out,List.take_of_length_le (by rw [List.length_drop];omega)])
    have HV:Hid (∀ (V:World) (g:Nat),V.heap.size=g→Src8 1 (some ⟨g,0,none⟩) [UInt8.ofNat r] (V.alloc (.cells #[.int .u8 (r:Int)] 5))):=Lib.hid (fun V g hg=>by subst hg;have:=src8_one V (UInt8.ofNat r);rw [bv_lit _ (by omega)] at this;exact this)
    have HG:Hid (4 :: grpPre s (grpQ s) ++ s.drop (8 * grpQ s) ++ zeros (8 - r) ++ [UInt8.ofNat r]=4 :: grp s):=Lib.hid (by
     have hdl:(s.drop (8 * grpQ s)).length=r:=by rw [List.length_drop];omega
     unfold grp grpLast
     rw [hdl]
     simp)
    clear hr hq hlt hk
    generalize hqq:grpQ s=q at *
    go_wp2_with (first
     | (at_builtin;refine app8s rfl (.tmp 58) (.tmp 65) rfl HR.out (by rfl) (b.extract (8 * q) (8 * q+r)) (by rfl) HZ.out HD.out (by omega) ?_;intro A10 c10 w10 H10)
     | (at_builtin;refine app8z rfl (.tmp 66) (.tmp 68) rfl H10.out (by rfl) (8 - r) (by rfl) (by omega) ?_;intro A11 c11 w11 H11;have p11:=H11.out.2.2.1.c P3.out)
     | (at_builtin;refine app8 rfl (.tmp 80) (.tmp 83) rfl (H11.out.alloc _) (by rfl) (HV.out _ _ rfl) rfl (by omega) ?_;intro A12 c12 w12 H12))
    go_ret
    have:=H12.out
    rw [HG.out] at this
    exact (this.lower HW.out).givesB
theorem krOne_any (x:Val) (h:checkI x=0) (hw:x.Wf) (w:World):Calls Tryz.prog 70 #[x.v] w (GivesB (keyV x) w):=by
 obtain ⟨hb,hm,h0,h4,hs⟩:=check_parts h
 obtain ⟨k,n,u,b⟩:=x
 obtain ⟨w1,w2,w3,w4⟩:=hw
 simp only at h0 h4 hs w1 w2 w3 w4
 have hc:k=0 ∨ k=1 ∨ k=2 ∨ k=3 ∨ k=4:=by omega
 unfold Val.v keyV keyBody
 simp only
 rcases hc with rfl | rfl | rfl | rfl | rfl
 ·simp [Val.bare] at hb
  obtain ⟨rfl,rfl,rfl⟩:=hb
  exact krOne_null w
 ·simp [Val.bare] at hb
  obtain ⟨rfl,rfl⟩:=hb
  exact krOne_int n w1 w2 w
 ·simp [Val.bare] at hb
  obtain ⟨rfl,rfl⟩:=hb
  obtain ⟨m,rfl⟩ : ∃ m:Nat,u=m:=⟨u.toNat,by omega⟩
  exact krOne_uint m (by omega) w
 ·simp [Val.bare] at hb
  obtain ⟨rfl,rfl⟩:=hb
  simp [mayB] at hm
  rcases hm with rfl | rfl
  ·exact krOne_bool 0 (by omega) w
  ·exact krOne_bool 1 (by omega) w
 ·simp [Val.bare] at hb
  obtain ⟨rfl,rfl⟩:=hb
  exact krOne_bytes b hs w
theorem strV_add (a b:List UInt8):Value.string ((⟨a.toArray⟩:ByteArray) ++ ⟨b.toArray⟩)=strV (a ++ b):=by
 unfold strV
 congr 1
set_option maxRecDepth 100000 in
set_option maxHeartbeats 4000000 in
theorem krKey_any (vl:Value) (l:List Val) (w:World) (hl:ValsAt w vl l) (h : ∀ x ∈ l,checkI x=0∧x.Wf) (hm:l.length≤100):Calls Tryz.prog 31 #[vl] w fun e w'=>e = .returned (strV (keyL l))∧Bel w w':=by
 obtain ⟨A,c,rfl,hc,hmx,hra⟩:=hl
 have HRA:=Lib.hid hra
 have H:=Lib.hid h
 have hI:(l.length:Int)≤100:=by omega
 clear hra h hc hmx
 go_enter Tryz.func31,Tryz.ntmps31
 go_wp2
 go_loopw [3,4] (fun v i wr=>∃ k:Nat,k≤l.length∧v=strV (keyL (l.take k))∧i = .int .i64 k∧Bel w wr) (fun _ i _=>l.length - (intOf i).toNat)
 case atStart=>exact ⟨0,Nat.zero_le _,rfl,rfl,Bel.refl w⟩
 case round =>
  obtain ⟨k,hk,rfl,rfl,hB⟩:=hrel
  by_cases hlt:k<l.length
  ·obtain ⟨x,hx⟩ : ∃ x,l[k]? = some x:=⟨_,List.getElem?_eq_getElem hlt⟩
   obtain ⟨b,off,rfl,hai⟩:=HRA.out (by omega)
   obtain ⟨q0,q1,q2,q3⟩:=hai k x hx
   have p0:=hB.c q0
   have p1:=hB.c q1
   have p2:=hB.c q2
   have p3:=hB.c q3
   have hxl:=H.out x (List.mem_of_getElem? hx)
   have HO:=Lib.hid (krOne_any x hxl.1 hxl.2 wr)
   unfold Val.v at HO
   have hlen:=keyV_len hxl.1 (by have:=hxl.2.u1;omega)
   have hpre:=keyL_len (l:=l.take k) (fun y hy=>H.out y (List.mem_of_mem_take hy))
   have hpl:(l.take k).length≤100:=by rw [List.length_take];omega
   have hsz : ¬ 9223372036854775807<(keyL (List.take k l)).length+(keyV x).length:=by omega
   have HX:=Lib.hid hx
   clear hx hai q0 q1 q2 q3 hxl hlen hpre hpl
   go_wp2_with fail
   refine HO.out.mono ?_
   rintro e w1 ⟨A1,c1,rfl,hown,hb1⟩
   have hcv:=conv_reads c1 (Reads.of_own hown)
   have hb2:=hB.then_ hb1
   clear hown hb1 p0 p1 p2 p3 HO
   unfold strV at hcv ⊢
   go_wp2
   all_goals
    go_roundw
    case rel=>exact ⟨k+1,by omega,by rw [keyL_snoc HX.out];exact strV_add _ _,by go_num,hb2⟩
    case measure=>simp [intOf];omega
  ·go_wp2
   go_ret
   rw [List.take_of_length_le (by omega)]
   exact ⟨rfl,hB⟩
end
section
open Go.RowKit Go.Shelf Go.Lib
attribute [local go_sem] Oper.semAt_some
def emptyB (c:List Col) (ky:List Int) (u:List (List Int)):Bool:=decide (c.length+ky.length+u.length=0)
theorem r8empty_any (vc vk vu:Value) (c:List Col) (ky:List Int) (u:List (List Int)) (w:World) (hc:ColsAt w vc c) (hk:IntsAt w vk ky) (hu:ListsAt w vu u) (hb:c.length≤1000000∧ky.length≤1000000∧u.length≤1000000) :
  Calls Tryz.prog 65 #[.agg #[vc,vk,vu]] w fun e w'=>e = .returned (.bool (emptyB c ky u))∧Bel w w':=by
 obtain ⟨Ac,cc,rfl,-⟩:=hc
 obtain ⟨Ak,ck,rfl,-⟩:=hk
 obtain ⟨Au,cu,rfl,-⟩:=hu
 obtain ⟨h1,h2,h3⟩:=hb
 generalize hx:c.length=x at *
 generalize hy:ky.length=y at *
 generalize hz:u.length=z at *
 have hxI:(x:Int)≤1000000:=by omega
 have hyI:(y:Int)≤1000000:=by omega
 have hzI:(z:Int)≤1000000:=by omega
 unfold emptyB
 rw [hx,hy,hz]
 by_cases h0:x+y+z=0
 ·obtain rfl:x=0:=by omega
  obtain rfl:y=0:=by omega
  obtain rfl:z=0:=by omega
  clear hx hy hz
  go_enter Tryz.func65,Tryz.ntmps65
  go_wp2
  go_ret
  exact ⟨rfl,(Bel.refl w).alloc _⟩
 ·have hs:((x:Int)+y+z == 0)=false:=by rw [beq_eq_false_iff_ne];omega
  rw [decide_eq_false h0]
  clear hx hy hz h0
  go_enter Tryz.func65,Tryz.ntmps65
  go_wp2
  go_ret
  exact ⟨rfl,(Bel.refl w).alloc _⟩
set_option maxHeartbeats 2000000 in
theorem r8row_any (v:Value) (l:List Val) (w:World) (h:ValsAt w v l):Calls Tryz.prog 66 #[v] w fun e w'=>e = .returned (.bool (rowB l))∧Bel w w':=by
 obtain ⟨A,c,rfl,hcl,hm,hr⟩:=h
 obtain ⟨R,hR⟩ : ∃ R,R=rowB l:=⟨_,rfl⟩
 rw [← hR]
 have HR:=Lib.hid hR
 have hlI:(l.length:Int)≤9223372036854775807:=by unfold maxLen at hm;omega
 have HRR:=Lib.hid hr
 clear hr hm hR hcl
 go_enter Tryz.func66,Tryz.ntmps66
 go_wp2
 go_loopw [3] (fun i wr=>∃ k:Nat,k≤l.length∧i = .int .i64 k∧Hid (Bel w wr)∧Hid (∀ x ∈ l.take k,checkI x=0)) (fun i _=>l.length - (intOf i).toNat)
 case atStart=>exact ⟨0,Nat.zero_le _,rfl,Bel.refl w,(by show ∀ x ∈ l.take 0,_;intro x hx;simp at hx)⟩
 case round =>
  obtain ⟨k,hk,rfl,HB,HT⟩:=hrel
  by_cases hlt:k<l.length
  ·obtain ⟨x,hx⟩ : ∃ x,l[k]? = some x:=⟨_,List.getElem?_eq_getElem hlt⟩
   obtain ⟨b,off,rfl,hi⟩:=HRR.out (by omega)
   obtain ⟨q0,q1,q2,q3⟩:=hi k x hx
   have c0:=HB.out.c q0
   have c1:=HB.out.c q1
   have c2:=HB.out.c q2
   have c3:=HB.out.c q3
   have hkI:(k:Int)<l.length:=by omega
   have hxm:x ∈ l:=List.mem_of_getElem? hx
   have HC:=Lib.hid (vrCheck_any x wr)
   have HNX:Hid (checkI x=0 → ∀ y ∈ l.take (k+1),checkI y=0):=Lib.hid (fun h y hy=>by
    rw [List.take_add_one,hx] at hy
    rcases List.mem_append.1 hy with hy | hy
    ·exact HT.out y hy
    ·simp at hy;rw [hy];exact h)
   have HNO:Hid (checkI x ≠ 0→R=false):=Lib.hid (fun h=>by
    rw [HR.out]
    unfold rowB
    rw [Bool.and_eq_false_iff]
    exact .inr (by cases hh:l.all (fun x=>decide (checkI x=0)) with | false=>rfl | true=>exact absurd (of_decide_eq_true (List.all_eq_true.1 hh x hxm)) h))
   unfold Val.v at HC
   generalize checkI x=ci at HC HNX HNO
   clear hi hx hxm q0 q1 q2 q3
   by_cases h0:ci=0
   ·subst h0
    have HN2:=Lib.hid (HNX.out rfl)
    go_wp2_with (go_at_call 114;refine HC.out.mono ?_;rintro e w4 ⟨rfl,hb4⟩)
    go_roundw
    case rel=>exact ⟨k+1,by omega,by go_num,HB.out.then_ hb4,HN2.out⟩
    case measure=>simp [intOf];omega
   ·have h0b:(ci != 0)=true:=by rw [bne_iff_ne];exact h0
    have hf:R=false:=HNO.out h0
    subst hf
    clear h0
    go_wp2_with (go_at_call 114;refine HC.out.mono ?_;rintro e w4 ⟨rfl,hb4⟩)
    go_ret
    exact ⟨rfl,HB.out.then_ hb4⟩
  ·obtain rfl:k=l.length:=by omega
   have hall:=HT.out
   rw [List.take_length] at hall
   have HRA:Hid (R=decide (1≤l.length∧l.length≤8)):=Lib.hid (by rw [HR.out];unfold rowB;rw [List.all_eq_true.2 (fun x hx=>decide_eq_true (hall x hx)),Bool.and_true])
   clear hall HT hlt hk HRR HR
   by_cases h1 : 1≤l.length
   ·have h1I:(1:Int)≤l.length:=by omega
    by_cases h8:l.length≤8
    ·have h8I:(l.length:Int)≤8:=by omega
     obtain rfl:R=true:=by rw [HRA.out];exact decide_eq_true ⟨h1,h8⟩
     clear h1 h8
     go_wp2
     go_ret
     exact ⟨rfl,HB.out⟩
    ·have h8I:decide ((l.length:Int)≤8)=false:=by simp;omega
     have h8N:decide (l.length≤8)=false:=by simp;omega
     obtain rfl:R=false:=by rw [HRA.out];exact decide_eq_false (fun h=>h8 h.2)
     clear h1 h8
     go_wp2
     go_ret
     exact ⟨rfl,HB.out⟩
   ·have h1N:l.length=0:=by omega
    obtain rfl:R=false:=by rw [HRA.out];exact decide_eq_false (fun h=>h1 h.1)
    rw [h1N]
    clear h1
    go_wp2
    go_ret
    exact ⟨rfl,HB.out⟩
end
end Go.Proofs.YtnajjhgbombboaaGreatDoor
