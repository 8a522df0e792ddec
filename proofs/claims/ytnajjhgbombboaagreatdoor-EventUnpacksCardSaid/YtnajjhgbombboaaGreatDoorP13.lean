/-
  Texts behind the statement: part 13.
-/
import Derived.Test.YtnajjhgbombboaaGreatDoorP12
import Derived.Laws.Cover3
set_option linter.unusedVariables false
set_option linter.unusedSimpArgs false
namespace Go.Proofs.YtnajjhgbombboaaGreatDoor
section
open Go.RowKit Go.Shelf Go.Lib
attribute [local go_sem] Oper.semAt_some
def kkV (a b:Nat):Value:=.agg #[.func (.func a) #[] #[],.func (.func b) #[] #[]]
def kkE (a b:Nat) (k:Int) (j:Nat):MapEntry:={ key:=.int .i64 k,val:=kkV a b,born:=j }
def kkMap:Array MapEntry:=#[kkE 154 155 0 0,kkE 156 159 1 1,kkE 163 164 2 2,kkE 166 167 3 3,kkE 168 169 4 4]
theorem kkinds_at (w:World):Calls Tryz.prog 126 #[] w fun e w'=>e = .returned (.map (some w.heap.size))∧w.alloc (.map kkMap 5)=w':=by
 have hmm:=@run_makeMap Tryz.prog
 have u1:=run_mapUpdate_fresh (P:=Tryz.prog) (T:=181) (K:=61) (E:=180) (k:=.i64) Tryz.underlying181 Tryz.underlying61 (es:=#[]) (a:=0) rfl 0 (kkV 154 155) w
 have u2:=run_mapUpdate_fresh (P:=Tryz.prog) (T:=181) (K:=61) (E:=180) (k:=.i64) Tryz.underlying181 Tryz.underlying61 (es:=#[kkE 154 155 0 0]) (a:=1) rfl 1 (kkV 156 159) w
 have u3:=run_mapUpdate_fresh (P:=Tryz.prog) (T:=181) (K:=61) (E:=180) (k:=.i64) Tryz.underlying181 Tryz.underlying61 (es:=#[kkE 154 155 0 0,kkE 156 159 1 1]) (a:=2) rfl 2 (kkV 163 164) w
 have u4:=run_mapUpdate_fresh (P:=Tryz.prog) (T:=181) (K:=61) (E:=180) (k:=.i64) Tryz.underlying181 Tryz.underlying61 (es:=#[kkE 154 155 0 0,kkE 156 159 1 1,kkE 163 164 2 2]) (a:=3) rfl 3 (kkV 166 167) w
 have u5:=run_mapUpdate_fresh (P:=Tryz.prog) (T:=181) (K:=61) (E:=180) (k:=.i64) Tryz.underlying181 Tryz.underlying61 (es:=#[kkE 154 155 0 0,kkE 156 159 1 1,kkE 163 164 2 2,kkE 166 167 3 3]) (a:=4) rfl 4 (kkV 168 169) w
 simp only [List.push_toArray,List.nil_append,List.cons_append,Nat.reduceAdd] at u1 u2 u3 u4 u5
 simp only [kkE,kkV] at u1 u2 u3 u4 u5
 go_enter Tryz.func126,Tryz.ntmps126
 go_wp2
 go_ret
 exact ⟨rfl,rfl⟩
theorem kkinds_any (w:World):Calls Tryz.prog 126 #[] w fun e w'=>∃ b,e = .returned (.map (some b))∧w'.heap[b]? = some (.map kkMap 5)∧Bel w w' :=
 (kkinds_at w).mono fun e w' ⟨he,hw⟩=>⟨_,he,by rw [← hw];exact World.alloc_heap_new _ _,by rw [← hw];exact (Bel.refl w).alloc _⟩
def klayF:Int→Nat
 | 0=>154
 | 1=>156
 | 2=>163
 | 3=>166
 | _=>168
def kreadF:Int→Nat
 | 0=>155
 | 1=>159
 | 2=>164
 | 3=>167
 | _=>169
theorem kkLook {t:Int} (h0 : 0≤t) (h4:t≤4) {b:Nat} {V:World} (hb:V.heap[b]? = some (.map kkMap 5)) :
 (Instr.lookup 181 (.map (some b)) (.int .i64 t) false).run Tryz.prog V = .ok (.agg #[.func (.func (klayF t)) #[] #[],.func (.func (kreadF t)) #[] #[]]) V:=by
 have hc:t=0 ∨ t=1 ∨ t=2 ∨ t=3 ∨ t=4:=by omega
 rcases hc with rfl | rfl | rfl | rfl | rfl
 ·exact run_lookup_int (k:=.i64) Tryz.underlying181 Tryz.underlying61 (i:=0) rfl hb
 ·exact run_lookup_int (k:=.i64) Tryz.underlying181 Tryz.underlying61 (i:=1) rfl hb
 ·exact run_lookup_int (k:=.i64) Tryz.underlying181 Tryz.underlying61 (i:=2) rfl hb
 ·exact run_lookup_int (k:=.i64) Tryz.underlying181 Tryz.underlying61 (i:=3) rfl hb
 ·exact run_lookup_int (k:=.i64) Tryz.underlying181 Tryz.underlying61 (i:=4) rfl hb
theorem kTurnIU_any (n:Int) (w:World):Calls Tryz.prog 158 #[.int .i64 n] w fun e w'=>e = .returned (.int .u64 (bits .xor .u64 (IntKind.u64.wrap n) 9223372036854775808))∧w=w':=by
 go_enter Tryz.func158,Tryz.ntmps158
 go_wp2
 go_ret
 exact ⟨rfl,rfl⟩
set_option maxRecDepth 100000 in
set_option maxHeartbeats 1000000 in
theorem klay_null (w:World):Calls Tryz.prog 154 #[.agg #[.int .i64 0,.int .i64 0,.int .u64 0,.string ⟨#[]⟩]] w (GivesB [] w):=by
 go_enter Tryz.func154,Tryz.ntmps154
 go_wp2
 go_ret
 exact ⟨none,0,rfl,World.ownsRow_nil _ _ _ _,(Bel.refl w).alloc _⟩
set_option maxRecDepth 100000 in
set_option maxHeartbeats 1000000 in
theorem klay_int (n:Int) (h1 : -9223372036854775808≤n) (h2:n≤9223372036854775807) (w:World):Calls Tryz.prog 156 #[.agg #[.int .i64 1,.int .i64 n,.int .u64 0,.string ⟨#[]⟩]] w (GivesB (beN (n+9223372036854775808).toNat 8) w):=by
 have hx:=xor_sign h1 h2
 have hU:(n+9223372036854775808).toNat<2 ^ 64:=by omega
 have HT:=Lib.hid (fun V=>kTurnIU_any n V)
 rw [hx] at HT
 generalize (n+9223372036854775808).toNat=U at *
 have HF:=Lib.hid (fun V=>fixed_any U 8 hU (by omega) (by omega) (by rw [show (256:Nat) ^ 8=2 ^ 64 by decide];exact hU) V)
 unfold GivesFixed at HF
 clear hx h1 h2 hU
 go_enter Tryz.func156,Tryz.ntmps156
 go_wp2_with fail
 refine (HT.out _).mono ?_
 rintro e w1 ⟨rfl,rfl⟩
 go_wp2_with fail
 refine (HF.out _).mono ?_
 rintro e w1 ⟨A,c,rfl,hown,hb⟩
 go_wp2
 go_ret
 have hL:=beN_length U 8
 refine ⟨A,c,by rw [hL];rfl,?_,((Bel.refl w).alloc _).then_ hb⟩
 rw [hL]
 exact ownsRow_less hown (by simp)
set_option maxRecDepth 100000 in
set_option maxHeartbeats 1000000 in
theorem klay_uint (u:Nat) (hu:u<2 ^ 64) (w:World):Calls Tryz.prog 163 #[.agg #[.int .i64 2,.int .i64 0,.int .u64 u,.string ⟨#[]⟩]] w (GivesB (numB u) w):=by
 have HN:=Lib.hid (fun V=>oNumberE_any u hu V)
 go_enter Tryz.func163,Tryz.ntmps163
 go_wp2_with fail
 refine (HN.out _).mono ?_
 rintro e w1 ⟨A,c,rfl,hown,hb⟩
 go_wp2
 go_ret
 exact ⟨A,c,rfl,ownsRow_less hown (by simp),((Bel.refl w).alloc _).then_ hb⟩
set_option maxRecDepth 100000 in
set_option maxHeartbeats 1000000 in
theorem klay_bool (n:Nat) (hn:n≤1) (w:World):Calls Tryz.prog 166 #[.agg #[.int .i64 3,.int .i64 n,.int .u64 0,.string ⟨#[]⟩]] w (GivesB [UInt8.ofNat n] w):=by
 have hv:(.int .u8 (n:Int):Value)=bv (UInt8.ofNat n):=by rw [bv_lit _ (by omega)]
 have H0:=row8_one ((Bel.refl w).alloc (.cells #[.int .i64 3,.int .i64 n,.int .u64 0,.string ⟨#[]⟩] 64)) (UInt8.ofNat n)
 rw [World.size_alloc,← hv] at H0
 have H1:=Lib.hid H0
 clear H0 hv
 go_enter Tryz.func166,Tryz.ntmps166
 go_wp2
 go_ret
 exact H1.out.givesB
theorem klay_any (x:Val) (h:checkI x=0) (hw:x.Wf) (w:World):Calls Tryz.prog (klayF x.k) #[x.v] w (GivesB (keyBody x) w):=by
 obtain ⟨hb,hm,h0,h4,hs⟩:=check_parts h
 obtain ⟨k,n,u,b⟩:=x
 obtain ⟨w1,w2,w3,w4⟩:=hw
 simp only at h0 h4 hs w1 w2 w3 w4
 have hc:k=0 ∨ k=1 ∨ k=2 ∨ k=3 ∨ k=4:=by omega
 unfold Val.v keyBody
 simp only
 rcases hc with rfl | rfl | rfl | rfl | rfl
 ·simp [Val.bare] at hb
  obtain ⟨rfl,rfl,rfl⟩:=hb
  exact klay_null w
 ·simp [Val.bare] at hb
  obtain ⟨rfl,rfl⟩:=hb
  exact klay_int n w1 w2 w
 ·simp [Val.bare] at hb
  obtain ⟨rfl,rfl⟩:=hb
  obtain ⟨m,rfl⟩ : ∃ m:Nat,u=m:=⟨u.toNat,by omega⟩
  exact klay_uint m (by omega) w
 ·simp [Val.bare] at hb
  obtain ⟨rfl,rfl⟩:=hb
  simp [mayB] at hm
  rcases hm with rfl | rfl
  ·exact klay_bool 0 (by omega) w
  ·exact klay_bool 1 (by omega) w
 ·simp [Val.bare] at hb
  obtain ⟨rfl,rfl⟩:=hb
  exact kyLaid_bytes b hs 4 0 0 w
theorem kkField0 (a b:Nat) (w:World):(Instr.field 180 (.agg #[.func (.func a) #[] #[],.func (.func b) #[] #[]]) 0).run Tryz.prog w = .ok (.func (.func a) #[] #[]) w:=by kernel_rfl
theorem klayF_enters {t:Int} (h0 : 0≤t) (h4:t≤4) : ∀ args w,(callFunc (klayF t) args).run Tryz.prog w = .ok (.enter (klayF t) args) w:=by
 have hc:t=0 ∨ t=1 ∨ t=2 ∨ t=3 ∨ t=4:=by omega
 rcases hc with rfl | rfl | rfl | rfl | rfl
 ·exact enters_of Tryz.func154 (by kernel_rfl) rfl
 ·exact enters_of Tryz.func156 (by kernel_rfl) rfl
 ·exact enters_of Tryz.func163 (by kernel_rfl) rfl
 ·exact enters_of Tryz.func166 (by kernel_rfl) rfl
 ·exact enters_of Tryz.func168 (by kernel_rfl) rfl
theorem reads_one_ {V:World} {g:Nat} {u:Value} (h:V.cell? ⟨g,0,none⟩=some u):Reads V V.heap.size 1 (some ⟨g,0,none⟩) 1 [u] :=
 ⟨rfl,fun _=>⟨_,rfl,World.block_lt_of_cell? (w:=V) (a:=⟨g,0,none⟩) h,fun j x hx=>by
  have hj:j=0:=by have:=(List.getElem?_eq_some_iff.1 hx).1;simp at this;omega
  subst hj
  simp at hx
  subst hx
  rw [add_free]
  exact h⟩⟩
set_option maxRecDepth 100000 in
set_option maxHeartbeats 8000000 in
theorem kyEncode_any (vl:Value) (l:List Val) (w:World) (hl:ValsAt w vl l) (h : ∀ x ∈ l,checkI x=0∧x.Wf) (hm:l.length≤8):Calls Tryz.prog 96 #[vl] w fun e w'=>e = .returned (.tuple #[strV (keyL l),.int .i64 0])∧Bel w w':=by
 obtain ⟨A,c,rfl,hc,hmx,hra⟩:=hl
 have HRA:=Lib.hid hra
 have H:=Lib.hid h
 have hI:(l.length:Int)≤8:=by omega
 obtain ⟨i0,hi0,hz0,hz1,hz2⟩:=info_parts infoU8
 have hp1:(0:Nat)<1:=by omega
 have HML:=Lib.hid hm
 clear hra h hc hmx hm
 go_enter Tryz.func96,Tryz.ntmps96
 go_wp2
 go_loopw [4,10] (fun v i wr=>∃ (k n:Nat),k≤l.length∧i = .int .i64 k∧(∃ A c,v = .slice A n c)∧n≤226 * k∧Hid (Bel w wr∧wr.ownsRow w.heap.size 5 1 v n ((keyL (l.take k)).map bv))) (fun v i _=>l.length - (intOf i).toNat)
 case atStart=>exact ⟨0,0,Nat.zero_le _,rfl,⟨none,0,rfl⟩,by omega,Bel.refl w,World.ownsRow_nil _ _ _ _⟩
 case round =>
  obtain ⟨k,n,hk,rfl,⟨A,c,rfl⟩,hn,HO⟩:=hrel
  by_cases hlt:k<l.length
  ·obtain ⟨x,hx⟩ : ∃ x,l[k]? = some x:=⟨_,List.getElem?_eq_getElem hlt⟩
   obtain ⟨bl,ol,rfl,hli⟩:=HRA.out (by omega)
   obtain ⟨p0,p1,p2,p3⟩:=hli k x hx
   have d0:=HO.out.1.c p0
   have d1:=HO.out.1.c p1
   have d2:=HO.out.1.c p2
   have d3:=HO.out.1.c p3
   have hxl:=H.out x (List.mem_of_getElem? hx)
   have HTK:=Lib.hid (keyL_snoc hx)
   have hVL:=keyV_len hxl.1 (by have:=hxl.2.u1;omega)
   have hbl:(keyBody x).length≤225:=by unfold keyV at hVL;simp at hVL;omega
   have hkI:(k:Int)<l.length:=by omega
   have HCK:=Lib.hid (fun V=>vCheck_any x V)
   rw [hxl.1] at HCK
   have HLAY:=Lib.hid (fun V=>klay_any x hxl.1 hxl.2 V)
   obtain ⟨-,-,hk0,hk4,-⟩:=check_parts hxl.1
   have eg:=klayF_enters hk0 hk4
   have hfd:=kkField0
   have HLK:=Lib.hid (fun (b:Nat) (V:World) (hb:V.heap[b]? = some (.map kkMap 5))=>kkLook hk0 hk4 hb)
   have hbone:=bv_one (keyBody x)
   have HKV:Hid (keyV x=UInt8.ofNat x.k.toNat :: keyBody x):=rfl
   have hwr:bv (UInt8.ofNat x.k.toNat) = .int .u8 (IntKind.u8.wrap x.k):=by
    rw [bv_lit _ (by omega)]
    congr 1
    have hc:x.k=0 ∨ x.k=1 ∨ x.k=2 ∨ x.k=3 ∨ x.k=4:=by omega
    rcases hc with e | e | e | e | e <;> rw [e] <;> rfl
   have HWR:=Lib.hid hwr
   generalize keyBody x=bd at *
   obtain ⟨xk,xn,xu,xb⟩:=x
   unfold Val.v at HLAY HCK
   dsimp only at *
   have hxi:IntKind.u8.wrap xk=xk:=by
    have hc:xk=0 ∨ xk=1 ∨ xk=2 ∨ xk=3 ∨ xk=4:=by omega
    rcases hc with e | e | e | e | e <;> rw [e] <;> rfl
   rw [hxi] at HWR
   clear hx hli p0 p1 p2 p3 hxl hwr hVL
   go_wp2_with fail
   refine (HCK.out _).mono ?_
   rintro e W1 ⟨rfl,hbc⟩
   have hb1:Bel wr W1:=((Bel.refl wr).alloc _).then_ hbc
   have g0:(fun V:World=>Bel w V∧V.cell? ⟨wr.heap.size,0,none⟩=some (.int .i64 xk)∧V.cell? ⟨wr.heap.size,1,none⟩=some (.int .i64 xn)∧V.cell? ⟨wr.heap.size,2,none⟩=some (.int .u64 xu)∧V.cell? ⟨wr.heap.size,3,none⟩=some (.string xb)) W1:=⟨HO.out.1.then_ hb1,hbc.c (by go_simp),hbc.c (by go_simp),hbc.c (by go_simp),hbc.c (by go_simp)⟩
   have hs1:wr.heap.size+1≤W1.heap.size:=by have:=hbc.size;simpa using this
   have HG0:=Lib.hid g0
   have hS1 : ∀ V,Bel W1 V→(fun V:World=>Bel w V∧V.cell? ⟨wr.heap.size,0,none⟩=some (.int .i64 xk)∧V.cell? ⟨wr.heap.size,1,none⟩=some (.int .i64 xn)∧V.cell? ⟨wr.heap.size,2,none⟩=some (.int .u64 xu)∧V.cell? ⟨wr.heap.size,3,none⟩=some (.string xb)) V:=fun V h=>⟨HG0.out.1.then_ h,h.c HG0.out.2.1,h.c HG0.out.2.2.1,h.c HG0.out.2.2.2.1,h.c HG0.out.2.2.2.2⟩
   obtain ⟨e0,e1,e2,e3⟩:=g0.2
   go_wp2_with fail
   have HOW2:Hid ((W1.alloc (.cells #[.int .u8 xk] 5)).drew.ownsRow w.heap.size 5 1 (.slice A n c) n ((keyL (l.take k)).map bv)):=ownsRow_bel HO.out.2 (hb1.then_ ((Bel.refl _).alloc _).drew)
   have HX2:Hid (Reads (W1.alloc (.cells #[.int .u8 xk] 5)).drew (W1.alloc (.cells #[.int .u8 xk] 5)).drew.heap.size 1 (some ⟨W1.heap.size,0,none⟩) 1 [.int .u8 xk]):=by
    show Reads _ _ _ _ _ _
    refine reads_one_ ?_
    go_simp
   have HS2:=Lib.hid (hS1 _ ((Bel.refl W1).alloc (.cells #[.int .u8 xk] 5)).drew)
   have hone1 : ∀ u ∈ [(.int .u8 xk:Value)],u.oneCell'=true:=by simp [Value.oneCell']
   have h63:n+1≤maxLen:=by have:=HML.out;unfold maxLen;omega
   have hby:(n+1) * 1≤140737488355328:=by have:=HML.out;omega
   have hbase:w.heap.size≤(W1.alloc (.cells #[.int .u8 xk] 5)).drew.heap.size:=HS2.out.1.size
   have h63b:n+1+bd.length≤maxLen:=by have:=HML.out;unfold maxLen;omega
   have hbyb:(n+1+bd.length) * 1≤140737488355328:=by have:=HML.out;omega
   have HKEEP:Hid (∀ (V V':World) (v:Value),(fun V:World=>Bel w V∧V.cell? ⟨wr.heap.size,0,none⟩=some (.int .i64 xk)∧V.cell? ⟨wr.heap.size,1,none⟩=some (.int .i64 xn)∧V.cell? ⟨wr.heap.size,2,none⟩=some (.int .u64 xu)∧V.cell? ⟨wr.heap.size,3,none⟩=some (.string xb)) V→V.grownBy V' v.ownBlock→(∀ g,v.ownBlock=some g→w.heap.size≤g∧(g<wr.heap.size ∨ wr.heap.size+1≤g))→(fun V:World=>Bel w V∧V.cell? ⟨wr.heap.size,0,none⟩=some (.int .i64 xk)∧V.cell? ⟨wr.heap.size,1,none⟩=some (.int .i64 xn)∧V.cell? ⟨wr.heap.size,2,none⟩=some (.int .u64 xu)∧V.cell? ⟨wr.heap.size,3,none⟩=some (.string xb)) V'):=fun V V' v h hg hv=>by
    obtain ⟨a0,a1,a2,a3,a4⟩:=h
    refine ⟨Below.grown a0 hg a0.size (fun j e=>(hv j e).1),grown_c hg a1 ?_,grown_c hg a2 ?_,grown_c hg a3 ?_,grown_c hg a4 ?_⟩ <;>
     (intro e;have:=(hv _ e.symm).2;dsimp only at this;omega)
   have HLT:Hid (∀ g,(Value.slice A n c).ownBlock=some g→w.heap.size≤g∧(g<wr.heap.size ∨ wr.heap.size+1≤g)):=fun g e=>by
    have:=HO.out.2.lt g e
    exact ⟨this.1,.inl this.2⟩
   have HLT9:Hid (∀ (v:Value) (g:Nat),(v.ownBlock=(Value.slice A n c).ownBlock ∨ v.ownBlock=some (W1.alloc (.cells #[.int .u8 xk] 5)).drew.heap.size)→v.ownBlock=some g→w.heap.size≤g∧(g<wr.heap.size ∨ wr.heap.size+1≤g)):=fun v g h e=>by
    rcases h with h | h
    ·exact HLT.out g (h.symm.trans e)
    ·rw [h] at e
     have e:=Option.some.inj e
     have h2:=HO.out.1.size
     have h3:(W1.alloc (.cells #[.int .u8 xk] 5)).drew.heap.size=W1.heap.size+1:=by simp
     omega
   clear hs1 e0 e1 e2 e3
   refine wp_region_noPanic ?_
   refine wp_region_held_drew (S:=(fun V:World=>Bel w V∧V.cell? ⟨wr.heap.size,0,none⟩=some (.int .i64 xk)∧V.cell? ⟨wr.heap.size,1,none⟩=some (.int .i64 xn)∧V.cell? ⟨wr.heap.size,2,none⟩=some (.int .u64 xu)∧V.cell? ⟨wr.heap.size,3,none⟩=some (.string xb))) (by kernel_rfl) ?_ (fun hHr1_0=>?_)
   ·(try dsimp only);(first | assumption | exact hS1 _ (Bel.refl _).drew | exact HS2.out | exact HS9.out | exact hS9 _ hb10 | exact hS9 _ hb11 | exact HS12.out)
   refine tk 0 ?_
   refine tk 1 ?_
   refine tk 2 ?_
   refine tk 3 ?_
   refine tk 7 ?_
   refine tk 8 ?_
   refine tk 11 ?_
   refine rd1 4 (fun K hK=>?_)
   go_simp
   refine hK.out _ _ ?_ (fun hHr1_1=>?_)
   ·(try dsimp only);(first | assumption | exact hS1 _ (Bel.refl _).drew | exact HS2.out | exact HS9.out | exact hS9 _ hb10 | exact hS9 _ hb11 | exact HS12.out)
   clear hK K hHr1_0
   try simp only [tkp0,tkp1,tkp2,tkp3,tkp4,tkp5,tkp6,tkp7]
   refine rd1 5 (fun K hK=>?_)
   rw [if_pos (by first | rfl | kernel_rfl)]
   (refine wp_append_any _ (.tmp 19) (.tmp 23) 34 rfl w.heap.size 5 i0 _ 1 1 Tryz.underlying34 hi0 hz0 hz1 hz2 rfl hp1 (.slice A n c) n _ (by rfl) HOW2.out _ (some ⟨W1.heap.size,0,none⟩) 1 1 _ (by rfl) HX2.out hone1 h63 hby hbase ?_;intro v9 w9 hown9 hg9 hat9;have HS9:=Lib.hid (HKEEP.out _ w9 _ HS2.out hg9 HLT.out);have HAT9:=Lib.hid hat9;obtain ⟨A9,c9,rfl⟩:=row_form hown9;have HOWN9:=Lib.hid hown9;have hS9:=fun (V:World) (h:Bel w9 V)=>(⟨HS9.out.1.then_ h,h.c HS9.out.2.1,h.c HS9.out.2.2.1,h.c HS9.out.2.2.2.1,h.c HS9.out.2.2.2.2⟩:(fun V:World=>Bel w V∧V.cell? ⟨wr.heap.size,0,none⟩=some (.int .i64 xk)∧V.cell? ⟨wr.heap.size,1,none⟩=some (.int .i64 xn)∧V.cell? ⟨wr.heap.size,2,none⟩=some (.int .u64 xu)∧V.cell? ⟨wr.heap.size,3,none⟩=some (.string xb)) V);clear hown9 hat9 hg9)
   refine hK.out _ _ ?_ (fun hHr1_2=>?_)
   ·(try dsimp only);(first | assumption | exact hS1 _ (Bel.refl _).drew | exact HS2.out | exact HS9.out | exact hS9 _ hb10 | exact hS9 _ hb11 | exact HS12.out)
   clear hK K hHr1_1
   try simp only [tkp0,tkp1,tkp2,tkp3,tkp4,tkp5,tkp6,tkp7]
   refine rd1 6 (fun K hK=>?_)
   go_simp
   (go_at_call 126;refine (kkinds_any _).mono ?_;rintro e w10 ⟨bm,rfl,hmap,hb10⟩;have hlk:=HLK.out bm w10 hmap)
   try (go_wp2_with fail)
   refine hK.out _ _ ?_ (fun hHr1_3=>?_)
   ·(try dsimp only);(first | assumption | exact hS1 _ (Bel.refl _).drew | exact HS2.out | exact HS9.out | exact hS9 _ hb10 | exact hS9 _ hb11 | exact HS12.out)
   clear hK K hHr1_2
   try simp only [tkp0,tkp1,tkp2,tkp3,tkp4,tkp5,tkp6,tkp7]
   refine rd1 9 (fun K hK=>?_)
   go_simp
   refine hK.out _ _ ?_ (fun hHr1_4=>?_)
   ·(try dsimp only);(first | assumption | exact hS1 _ (Bel.refl _).drew | exact HS2.out | exact HS9.out | exact hS9 _ hb10 | exact hS9 _ hb11 | exact HS12.out)
   clear hK K hHr1_3
   try simp only [tkp0,tkp1,tkp2,tkp3,tkp4,tkp5,tkp6,tkp7]
   refine tk 10 ?_
   refine rd1 12 (fun K hK=>?_)
   go_simp
   (go_at_fn (klayF xk);refine (HLAY.out _).mono ?_;rintro e w11 ⟨A2,c2,rfl,hown2,hb2⟩;have hb11:=hb10.then_ hb2)
   try (go_wp2_with fail)
   refine hK.out _ _ ?_ (fun hHr1_5=>?_)
   ·(try dsimp only);(first | assumption | exact hS1 _ (Bel.refl _).drew | exact HS2.out | exact HS9.out | exact hS9 _ hb10 | exact hS9 _ hb11 | exact HS12.out)
   clear hK K hHr1_4
   try simp only [tkp0,tkp1,tkp2,tkp3,tkp4,tkp5,tkp6,tkp7]
   refine rd1 13 (fun K hK=>?_)
   rw [if_pos (by first | rfl | kernel_rfl)]
   (refine wp_append_any _ (.tmp 24) (.tmp 31) 34 rfl w.heap.size 5 i0 _ 1 1 Tryz.underlying34 hi0 hz0 hz1 hz2 rfl hp1 (.slice A9 (n+1) c9) (n+1) _ (by rfl) (ownsRow_bel HOWN9.out hb11) _ A2 bd.length c2 _ (by rfl) (Reads.of_own hown2) hbone h63b hbyb (hS9 _ hb11).1.size ?_;intro v12 w12 hown12 hg12 hat12;have HS12:=Lib.hid (HKEEP.out _ w12 _ (hS9 _ hb11) hg12 (fun g e=>HLT9.out _ g HAT9.out e));obtain ⟨A12,c12,rfl⟩:=row_form hown12;have HOWN12:=Lib.hid hown12;clear hown12 hg12 hat12)
   refine hK.out _ _ ?_ (fun hHr1_6=>?_)
   ·(try dsimp only);(first | assumption | exact hS1 _ (Bel.refl _).drew | exact HS2.out | exact HS9.out | exact hS9 _ hb10 | exact hS9 _ hb11 | exact HS12.out)
   clear hK K hHr1_5
   try simp only [tkp0,tkp1,tkp2,tkp3,tkp4,tkp5,tkp6,tkp7]
   refine tk 14 ?_
   refine wpAnyH_done (by kernel_rfl) ?_ _
   refine NoPanic.normal ?_
   have hlist:((keyL (l.take k)).map bv ++ [.int .u8 xk]) ++ bd.map bv=(keyL (l.take (k+1))).map bv:=by
    rw [HTK.out,HKV.out,List.map_append,List.append_assoc,List.map_cons,HWR.out]
    rfl
   have HFIN:=Lib.hid (And.intro HS12.out.1 HOWN12.out)
   rw [hlist] at HFIN
   clear hlist hlk hmap
   go_wp2_with fail
   go_roundw
   case rel=>exact ⟨k+1,_,by omega,by go_num,⟨A12,c12,rfl⟩,by omega,HFIN.out⟩
   case measure=>simp [intOf];omega
  ·obtain rfl:k=l.length:=by omega
   have hnl:n=(keyL l).length:=by
    have:=HO.out.2.1
    rw [List.take_length,List.length_map] at this
    omega
   have ho2:=HO.out.2
   rw [List.take_length,hnl] at ho2
   have hcv:=conv_reads c (Reads.of_own ho2)
   subst hnl
   clear ho2
   unfold strV at hcv
   have hnI:((keyL l).length:Int)≤1808:=by have:=HML.out;omega
   have HBW:=Lib.hid HO.out.1
   clear hlt hk HO
   go_wp2
   go_ret2
   exact ⟨rfl,HBW.out⟩
end
section
open Go.RowKit Go.Shelf Go.Lib
attribute [local go_sem] Oper.semAt_some
theorem mid_bytes (s:List UInt8) (a b:Nat):(⟨s.toArray⟩:ByteArray).extract a b=⟨((s.drop a).take (b - a)).toArray⟩:=by
 apply ByteArray.ext
 rw [ByteArray.data_extract]
 simp
theorem drop_bytes (s:List UInt8) (a:Nat):(⟨s.toArray⟩:ByteArray).extract a s.length=⟨(s.drop a).toArray⟩:=by
 rw [mid_bytes,List.take_of_length_le (by rw [List.length_drop];omega)]
theorem index_bytes {s:List UInt8} {k:Nat} {c:UInt8} (h:s[k]? = some c) {i:Int} (hi:i=k) (W:World):(Instr.index 9 (.string ⟨s.toArray⟩) (.int .i64 i)).run Tryz.prog W = .ok (.int .u8 c.toNat) W:=by
 subst hi
 have hk:=(List.getElem?_eq_some_iff.1 h)
 have hl:(k:Int)<(⟨s.toArray⟩:ByteArray).size:=by have:=hk.1;show (k:Int)<(s.toArray.size:Nat);simp;omega
 rw [run_index_string W 9 ⟨s.toArray⟩ .i64 k Tryz.underlying9,dif_pos ⟨by omega,hl⟩]
 congr 3
 have:(⟨s.toArray⟩:ByteArray)[(k:Int).toNat]'(by omega)=c:=by rw [← hk.2];rfl
 rw [this]
theorem rdG_none {f:Nat} {acc t:List UInt8} (h:t.length<9):rdG f acc t=none:=by
 cases f with
 | zero=>rfl
 | succ f=>unfold rdG;rw [if_pos h]
end
section
open Go.RowKit Go.Shelf Go.Lib
attribute [local go_sem] Oper.semAt_some
theorem conv_at (s:List UInt8) (hs:s.length≤1000000) (W:World):BsAt (Lib.bytesWorld W 5 ⟨s.toArray⟩) (.slice (some ⟨W.heap.size,0,none⟩) s.length (grownCap W s.length 0 5)) s :=
 ⟨_,_,rfl,grownCap_ge _ _ _ _,grownCap_le_maxLen _ _ _ _ (by unfold maxLen;omega),bytes_reads s W⟩
end
section
open Go.RowKit Go.Shelf Go.Lib
attribute [local go_sem] Oper.semAt_some
theorem rdG_le : ∀ (f:Nat) (acc t y:List UInt8) (n:Nat),rdG f acc t=some (y,n)→n≤t.length:=by
 intro f
 induction f with
 | zero=>intro acc t y n h;cases h
 | succ f ih =>
   intro acc t y n h
   by_cases h9:t.length<9
   ·rw [rdG_none h9] at h;cases h
   ·unfold rdG at h
    rw [if_neg h9] at h
    split at h
    ·cases h
    ·split at h
     ·cases h
     ·split at h
      ·cases hr:rdG f (acc ++ t.take 8) (t.drop 9) with
       | none=>rw [hr] at h;cases h
       | some q =>
         obtain ⟨y',n'⟩:=q
         rw [hr] at h
         have:=ih _ _ _ _ hr
         simp at h
         rw [List.length_drop] at this
         omega
      ·split at h
       ·simp at h;omega
       ·cases h
theorem rdKeyV_le {s:List UInt8} {x:Val} {m:Nat} (h:rdKeyV s=some (x,m)) : 1≤m∧m≤s.length:=by
 cases s with
 | nil=>cases h
 | cons c t =>
   unfold rdKeyV at h
   dsimp only at h
   simp only [List.length_cons]
   split at h
   ·simp at h;omega
   ·split at h
    ·split at h
     ·cases h
     ·simp at h;omega
    ·split at h
     ·cases hr:rdNum t with
      | none=>rw [hr] at h;cases h
      | some q =>
        rw [hr] at h
        have:=rdNum_le (n:=q.1) (m:=q.2) hr
        simp at h
        omega
     ·split at h
      ·split at h
       ·cases h
       ·split at h
        ·cases h
        ·simp at h;omega
      ·split at h
       ·cases hr:rdG t.length [] t with
        | none=>rw [hr] at h;cases h
        | some q =>
          rw [hr] at h
          have:=rdG_le _ _ _ q.1 q.2 hr
          simp at h
          omega
       ·cases h
def krDec (s:List UInt8):List Val×Int:=match rdKeys s with
 | some l=>(l,0)
 | none=>([],150)
end
section
open Go.RowKit Go.Shelf Go.Lib
theorem forIn_all {P:Program} {w:World} {len:Nat} {f:Nat→Bool} (F:Nat→Option Bool×Unit→Sem (ForInStep (Option Bool×Unit))) (G:Option Bool×Unit→World→Result Bool)
 (hF : ∀ i,i<len→(F i (none,())).run P w = .ok (if f i then .yield (none,()) else .done (some false,())) w) (h1:G (none,()) w = .ok true w) (h2:G (some false,()) w = .ok false w) :
 (Sem.run P (forIn (List.range' 0 len 1) (none,()) F) w).andThen G = .ok ((List.range' 0 len).all f) w:=by
 have H : ∀ (k s:Nat),s+k≤len→(Sem.run P (forIn (List.range' s k 1) (none,()) F) w).andThen G = .ok ((List.range' s k).all f) w:=by
  intro k
  induction k with
  | zero=>intro s _;simp [h1]
  | succ k ih =>
    intro s hs
    simp only [List.range'_succ,List.forIn_cons,Sem.run_bind,hF s (by omega),Result.andThen_ok,List.all_cons]
    cases hf:f s
    ·simp [h2]
    ·have:=ih (s+1) (by omega)
     simpa using this
 exact H len 0 (by omega)
theorem run_eq_array {P:Program} (w:World) (d:Nat) (t e:TypeId) (len:Nat) (xs ys:Array Value) (f:Nat→Bool) (ht:P.underlying t=some (.array len e)) (hs:(sizeOf e).run P w = .ok 1 w)
 (h : ∀ i,i<len → ∃ x y,(part e xs (i * 1)).run P w = .ok x w∧(part e ys (i * 1)).run P w = .ok y w∧(Op.equalIn d e x y).run P w = .ok (f i) w) :
 (Op.equalIn (d+1) t (.agg xs) (.agg ys)).run P w = .ok ((List.range len).all f) w:=by
 simp only [Op.equalIn,Sem.run_bind,run_underlying ht,Result.andThen_ok,hs]
 rw [Std.Legacy.Range.forIn_eq_forIn_range']
 have hz:Std.Legacy.Range.size [:len]=len:=by simp [Std.Legacy.Range.size]
 rw [hz,List.range_eq_range']
 refine forIn_all _ _ (fun i hi=>?_) (by simp) (by simp)
 obtain ⟨x,y,h1,h2,h3⟩:=h i hi
 simp only [Sem.run_bind,h1,h2,h3,Result.andThen_ok]
 cases f i <;> simp
theorem kblock_eq (xs ys:List UInt8) (hx:xs.length=9) (hy:ys.length=9) (w:World):(Op.equalIn 10000 238 (.agg (xs.map bv).toArray) (.agg (ys.map bv).toArray)).run Tryz.prog w = .ok (decide (xs=ys)) w:=by
 have hpart : ∀ (zs:List UInt8) (hz:zs.length=9) (i:Nat) (hi:i<9),(part 5 (zs.map bv).toArray (i * 1)).run Tryz.prog w = .ok (bv (zs.getD i 0)) w:=by
  intro zs hz i hi
  match zs,hz with
  | [z0,z1,z2,z3,z4,z5,z6,z7,z8],_ =>
    have hc:i=0 ∨ i=1 ∨ i=2 ∨ i=3 ∨ i=4 ∨ i=5 ∨ i=6 ∨ i=7 ∨ i=8:=by omega
    rcases hc with rfl | rfl | rfl | rfl | rfl | rfl | rfl | rfl | rfl <;> (go_simp;try rfl)
 rw [run_eq_array (P:=Tryz.prog) w 9999 238 5 9 _ _ (fun i=>(xs.getD i 0).toNat == (ys.getD i 0).toNat) (by kernel_rfl) (by kernel_rfl) (fun i hi=>⟨_,_,hpart xs hx i hi,hpart ys hy i hi,?_⟩)]
 ·congr 1
  rw [Bool.eq_iff_iff,List.all_eq_true,decide_eq_true_iff]
  constructor
  ·intro h
   apply List.ext_getElem (by omega)
   intro i h1 h2
   have:=h i (List.mem_range.2 (by omega))
   simp [List.getD_eq_getElem?_getD,h1,h2] at this
   exact UInt8.toNat_inj.1 this
  ·rintro rfl i hi
   simp
 ·unfold bv
  rw [run_equalIn_int (P:=Tryz.prog) w 9998 5 .u8 .u8 _ _ Tryz.underlying5]
  congr 1
  rw [Bool.eq_iff_iff]
  simp
  constructor <;> intro h <;> omega
theorem str2_eq (a b c d:ByteArray) (t:TypeId) (ht:Tryz.prog.underlying t=some (.array 2 9)) (w:World):(Op.equalIn 10000 t (.agg #[.string a,.string b]) (.agg #[.string c,.string d])).run Tryz.prog w = .ok (a.toList == c.toList && b.toList == d.toList) w:=by
 have hp0 : ∀ (x y:ByteArray),(part 9 #[.string x,.string y] (0 * 1)).run Tryz.prog w = .ok (.string x) w:=fun x y=>by go_simp
 have hp1 : ∀ (x y:ByteArray),(part 9 #[.string x,.string y] (1 * 1)).run Tryz.prog w = .ok (.string y) w:=fun x y=>by go_simp
 have he:=fun x y=>run_equalIn_string (P:=Tryz.prog) w 9998 9 x y Tryz.underlying9
 rw [run_eq_array (P:=Tryz.prog) w 9999 t 9 2 _ _ (fun i=>if i=0 then a.toList == c.toList else b.toList == d.toList) ht (by kernel_rfl) (fun i hi=>?_)]
 ·simp [List.range_succ]
 ·have hc:i=0 ∨ i=1:=by omega
  rcases hc with rfl | rfl
  ·exact ⟨_,_,hp0 a b,hp0 c d,he a c⟩
  ·exact ⟨_,_,hp1 a b,hp1 c d,he b d⟩
end
section
open Go.RowKit Go.Shelf Go.Lib
def kGave:List PanicEntry:=[{ v:=.iface 35 (.int .i64 150),recovered:=false }]
theorem kmust_yes (w:World):Calls Tryz.prog 165 #[.bool true] w fun e w'=>e = .returned (.tuple #[])∧w=w':=by
 go_enter Tryz.func165,Tryz.ntmps165
 go_wp2
 go_end0
 exact ⟨rfl,rfl⟩
theorem kmust_no (w:World):Calls Tryz.prog 165 #[.bool false] w fun e w'=>e = .panicked kGave∧w=w':=by
 go_enter Tryz.func165,Tryz.ntmps165
 go_wp2
 exact ⟨rfl,rfl,rfl⟩
theorem ktake_yes (bt:Nat) (s:List UInt8) (k:Nat) (i:Int) (hi:i=k) (hk:k≤s.length) (w:World) (h:Blk w bt 215 #[strV s]):Calls Tryz.prog 161 #[.pointer (some ⟨bt,0,none⟩),.int .i64 i] w fun e w'=>e = .returned (strV (s.take k))∧w.setCell ⟨bt,0,none⟩ (strV (s.drop k))=w':=by
 subst hi
 have h1:=h.cell 0
 have h2:=h.frozen 0
 simp only [List.getElem?_toArray,List.getElem?_cons_zero] at h1
 have hkI:(k:Int)≤s.length:=by omega
 have e1:(⟨s.toArray⟩:ByteArray).extract 0 k=⟨(s.take k).toArray⟩:=by rw [mid_bytes,List.drop_zero,Nat.sub_zero]
 have e2:=drop_bytes s k
 unfold strV at h1 ⊢
 clear h hk
 go_enter Tryz.func161,Tryz.ntmps161
 go_wp2_with (go_at_call 165;refine (kmust_yes _).mono ?_;rintro e w' ⟨rfl,rfl⟩)
 go_ret
 exact ⟨rfl,rfl⟩
theorem ktake_no (bt:Nat) (s:List UInt8) (k:Nat) (i:Int) (hi:i=k) (hk:s.length<k) (w:World) (h:Blk w bt 215 #[strV s]):Calls Tryz.prog 161 #[.pointer (some ⟨bt,0,none⟩),.int .i64 i] w fun e w'=>e = .panicked kGave∧w=w':=by
 subst hi
 have h1:=h.cell 0
 have h2:=h.frozen 0
 simp only [List.getElem?_toArray,List.getElem?_cons_zero] at h1
 have hkI:decide (k≤s.length)=false:=by simp;omega
 unfold strV at h1
 clear h hk
 go_enter Tryz.func161,Tryz.ntmps161
 go_wp2_with (go_at_call 165;refine (kmust_no _).mono ?_;rintro e w' ⟨rfl,rfl⟩)
 exact ⟨rfl,rfl,rfl⟩
theorem kTurnUI_any (n m:Int) (hx:IntKind.i64.wrap (bits .xor .u64 n 9223372036854775808)=m) (w:World):Calls Tryz.prog 162 #[.int .u64 n] w fun e w'=>e = .returned (.int .i64 m)∧w=w':=by
 go_enter Tryz.func162,Tryz.ntmps162
 go_wp2
 go_ret
 exact ⟨rfl,rfl⟩
theorem conv_ktext (s:List UInt8) (W:World):(convert 213 34 (.string ⟨s.toArray⟩)).run Tryz.prog W = .ok (.slice (some ⟨W.heap.size,0,none⟩) s.length (grownCap W s.length 0 5)) (Lib.bytesWorld W 5 ⟨s.toArray⟩):=by
 have:=Lib.run_convert_string_bytes (P:=Tryz.prog) W 213 34 5 ⟨s.toArray⟩ Tryz.underlying213 Tryz.underlying34 Tryz.underlying5
 rw [show (⟨s.toArray⟩:ByteArray).size=s.length from rfl] at this
 exact this
def vcells (x:Val):Array Value:=#[.int .i64 x.k,.int .i64 x.n,.int .u64 x.u,.string x.b]
def KRead (bt gx:Nat) (x:Val) (r:List UInt8) (w:World) (e:Ending) (w':World):Prop :=
 e = .returned (.tuple #[])∧Blk w' gx 64 (vcells x)∧Blk w' bt 215 #[strV r]∧BelS (fun j=>j ≠ bt∧j ≠ gx) w w'
def KGave (bt gx:Nat) (w:World) (e:Ending) (w':World):Prop :=
 e = .panicked kGave∧(∃ x:Val,Blk w' gx 64 (vcells x))∧BelS (fun j=>j ≠ bt∧j ≠ gx) w w'
def kv (k:Int):Val:=⟨k,0,0,⟨#[]⟩⟩
theorem kread_null (bt gx:Nat) (s:List UInt8) (w:World) (h:Blk w bt 215 #[strV s]) (hx:Blk w gx 64 (vcells (kv 0))) :
 Calls Tryz.prog 155 #[.pointer (some ⟨bt,0,none⟩),.pointer (some ⟨gx,0,none⟩)] w (KRead bt gx (kv 0) s w):=by
 go_enter Tryz.func155,Tryz.ntmps155
 go_wp2
 go_end0
 exact ⟨rfl,hx,h,BelS.refl _ _⟩
theorem kset_tape {w:World} {bt gx:Nat} {s r:List UInt8} (h:Blk w bt 215 #[strV s]):Blk (w.setCell ⟨bt,0,none⟩ (strV r)) bt 215 #[strV r]:=h.set_ 0 _
set_option maxRecDepth 100000 in
set_option maxHeartbeats 2000000 in
theorem kread_int (bt gx:Nat) (s:List UInt8) (hs : 8≤s.length) (w:World) (hne:bt ≠ gx) (h:Blk w bt 215 #[strV s]) (hx:Blk w gx 64 (vcells (kv 1))) :
 Calls Tryz.prog 159 #[.pointer (some ⟨bt,0,none⟩),.pointer (some ⟨gx,0,none⟩)] w (KRead bt gx ⟨1,sgn63 (numN (s.take 8)),0,⟨#[]⟩⟩ (s.drop 8) w):=by
 have HT:=Lib.hid (ktake_yes bt s 8 8 rfl hs w h)
 have hl8:(s.take 8).length=8:=by rw [List.length_take];omega
 have co:=fun W=>conv_bytes (s.take 8) W
 have R8:=fun (W:World) (b c:Nat) (hb:W.heap.size=b)=>Lib.hid (hb ▸ readFixed_any (s.take 8) (some ⟨W.heap.size,0,none⟩) c (by omega) (by omega) (Lib.bytesWorld W 5 ⟨(s.take 8).toArray⟩) (bytes_reads _ W):Calls Tryz.prog 160 #[.slice (some ⟨b,0,none⟩) (s.take 8).length c] (Lib.bytesWorld W 5 ⟨(s.take 8).toArray⟩) fun e w'=>e = .returned (.tuple #[.int .u64 (numN (s.take 8)),.int .i64 0])∧Lib.bytesWorld W 5 ⟨(s.take 8).toArray⟩=w')
 have B8:=Lib.hid (bytes_bel (s.take 8) (w.setCell ⟨bt,0,none⟩ (strV (s.drop 8))))
 have hU:numN (s.take 8)<2 ^ 64:=by have:=numN_lt (s.take 8);rw [hl8] at this;exact this
 have HU:=Lib.hid (kTurnUI_any (numN (s.take 8)) _ (xor_back hU))
 have HB:=Lib.hid (And.intro (kset_tape (gx:=gx) (r:=s.drop 8) h) (hx.far (p:=⟨bt,0,none⟩) (Ne.symm hne) (strV (s.drop 8))))
 have HW:=Lib.hid ((BelS.refl (fun j=>j ≠ bt∧j ≠ gx) w).setCell (p:=⟨bt,0,none⟩) (by show ¬ (bt ≠ bt∧bt ≠ gx);omega) (strV (s.drop 8)))
 rw [hl8] at R8 co
 unfold sgn63
 generalize numN (s.take 8)=U at *
 generalize s.take 8=t8 at *
 generalize s.drop 8=r8 at *
 clear hU hl8 h hx hs
 go_enter Tryz.func159,Tryz.ntmps159
 go_wp2_with fail
 refine HT.out.mono ?_
 rintro e w1 ⟨rfl,rfl⟩
 unfold strV
 go_wp2_with fail
 refine (R8 _ _ _ (by simp)).out.mono ?_
 rintro e w2 ⟨rfl,hW⟩
 unfold strV at B8 HB HW
 have hb2:=B8.out
 rw [hW] at hb2
 have k1:=HB.out.1.below hb2 HB.out.1.lt
 have k2:=HB.out.2.below hb2 HB.out.2.lt
 have c1:w2.cell? ⟨gx,1,none⟩=some (.int .i64 0):=k2.cell 1
 have f1:=k2.frozen 1
 clear hW B8 R8 co HT
 go_wp2_with fail
 refine (HU.out _).mono ?_
 rintro e w3 ⟨rfl,rfl⟩
 go_wp2
 go_end0
 refine ⟨rfl,k2.set_ 1 _,k1.far (by exact hne) _,(HW.out.trans (BelS.of_bel hb2)).setCell (by show ¬ (gx ≠ bt∧gx ≠ gx);omega) _⟩
set_option maxRecDepth 100000 in
set_option maxHeartbeats 2000000 in
theorem kread_int_no (bt gx:Nat) (s:List UInt8) (hs:s.length<8) (w:World) (h:Blk w bt 215 #[strV s]) (hx:Blk w gx 64 (vcells (kv 1))) :
 Calls Tryz.prog 159 #[.pointer (some ⟨bt,0,none⟩),.pointer (some ⟨gx,0,none⟩)] w (KGave bt gx w):=by
 have HT:=Lib.hid (ktake_no bt s 8 8 rfl hs w h)
 have HX:=Lib.hid hx
 clear h hs hx
 go_enter Tryz.func159,Tryz.ntmps159
 go_wp2_with fail
 refine HT.out.mono ?_
 rintro e w1 ⟨rfl,rfl⟩
 go_wp2
 exact ⟨rfl,rfl,⟨_,HX.out⟩,BelS.refl _ _⟩
set_option maxRecDepth 100000 in
set_option maxHeartbeats 2000000 in
theorem kread_bool (bt gx:Nat) (c:UInt8) (s:List UInt8) (w:World) (hne:bt ≠ gx) (h:Blk w bt 215 #[strV (c :: s)]) (hx:Blk w gx 64 (vcells (kv 3))) :
 Calls Tryz.prog 167 #[.pointer (some ⟨bt,0,none⟩),.pointer (some ⟨gx,0,none⟩)] w fun e w'=>if 1<c.toNat then KGave bt gx w e w' else KRead bt gx ⟨3,c.toNat,0,⟨#[]⟩⟩ s w e w':=by
 have HT:=Lib.hid (ktake_yes bt (c :: s) 1 1 rfl (by simp) w h)
 have hix:=fun W=>index_bytes (s:=(c :: s).take 1) (k:=0) (c:=c) (by rfl) (i:=0) rfl W
 have HB:=Lib.hid (And.intro (kset_tape (gx:=gx) (r:=s) h) (hx.far (p:=⟨bt,0,none⟩) (Ne.symm hne) (strV s)))
 have HW:=Lib.hid ((BelS.refl (fun j=>j ≠ bt∧j ≠ gx) w).setCell (p:=⟨bt,0,none⟩) (by show ¬ (bt ≠ bt∧bt ≠ gx);omega) (strV s))
 have hd:(c :: s).drop 1=s:=rfl
 rw [hd] at HT
 have hc255:(c.toNat:Int)≤255:=by have:=c.toNat_lt;omega
 generalize c.toNat=n at *
 generalize (c :: s).take 1=t1 at *
 have c1:(w.setCell ⟨bt,0,none⟩ (strV s)).cell? ⟨gx,1,none⟩=some (.int .i64 0):=HB.out.2.cell 1
 have f1:=HB.out.2.frozen 1
 have HG:Hid (KGave bt gx w (.panicked kGave) ((w.setCell ⟨bt,0,none⟩ (strV s)).setCell ⟨gx,1,none⟩ (.int .i64 n))):=⟨rfl,⟨⟨3,n,0,⟨#[]⟩⟩,HB.out.2.set_ 1 _⟩,HW.out.setCell (by show ¬ (gx ≠ bt∧gx ≠ gx);omega) _⟩
 have HR:Hid (KRead bt gx ⟨3,n,0,⟨#[]⟩⟩ s w (.returned (.tuple #[])) ((w.setCell ⟨bt,0,none⟩ (strV s)).setCell ⟨gx,1,none⟩ (.int .i64 n))):=⟨rfl,HB.out.2.set_ 1 _,HB.out.1.far (by exact hne) _,HW.out.setCell (by show ¬ (gx ≠ bt∧gx ≠ gx);omega) _⟩
 generalize hW1:w.setCell ⟨bt,0,none⟩ (strV s)=W1 at *
 clear h hx hd HB HW hW1
 by_cases hn : 1<n
 ·simp only [if_pos hn]
  have hnI:decide ((n:Int)≤1)=false:=by simp;omega
  have hnN:decide (n≤1)=false:=by simp;omega
  clear hn HR
  go_enter Tryz.func167,Tryz.ntmps167
  go_wp2_with (first
   | (go_at_call 161;refine HT.out.mono ?_;rintro e w1 ⟨rfl,rfl⟩;unfold strV)
   | (go_at_call 165;refine (kmust_no _).mono ?_;rintro e w' ⟨rfl,rfl⟩))
  exact ⟨rfl,HG.out⟩
 ·simp only [if_neg hn]
  have hnI:(n:Int)≤1:=by omega
  have hnN:n≤1:=by omega
  clear hn HG
  go_enter Tryz.func167,Tryz.ntmps167
  go_wp2_with (first
   | (go_at_call 161;refine HT.out.mono ?_;rintro e w1 ⟨rfl,rfl⟩;unfold strV)
   | (go_at_call 165;refine (kmust_yes _).mono ?_;rintro e w' ⟨rfl,rfl⟩))
  go_end0
  exact HR.out
set_option maxRecDepth 100000 in
set_option maxHeartbeats 2000000 in
theorem kread_uint_no (bt gx:Nat) (s:List UInt8) (hs:s.length≤1000000) (hr:rdNum s=none) (w:World) (h:Blk w bt 215 #[strV s]) (hx:Blk w gx 64 (vcells (kv 2))) :
 Calls Tryz.prog 164 #[.pointer (some ⟨bt,0,none⟩),.pointer (some ⟨gx,0,none⟩)] w (KGave bt gx w):=by
 have h1:=h.cell 0
 have h2:=h.frozen 0
 simp only [List.getElem?_toArray,List.getElem?_cons_zero] at h1
 have co:=fun W=>conv_ktext s W
 have HN:=Lib.hid (oReadNumber_any _ s hs _ (conv_at s hs w))
 rw [hr] at HN
 have B8:=Lib.hid (bytes_bel s w)
 have HX:=Lib.hid hx
 unfold numV at HN
 unfold strV at h1
 clear hr h hx hs
 go_enter Tryz.func164,Tryz.ntmps164
 go_wp2_with fail
 refine HN.out.mono ?_
 rintro e w1 ⟨rfl,hb1⟩
 go_wp2_with (go_at_call 165;refine (kmust_no _).mono ?_;rintro e w' ⟨rfl,rfl⟩)
 exact ⟨rfl,rfl,⟨_,HX.out.below (B8.out.then_ hb1) HX.out.lt⟩,BelS.of_bel (B8.out.then_ hb1)⟩
set_option maxRecDepth 100000 in
set_option maxHeartbeats 2000000 in
theorem kread_uint (bt gx:Nat) (s:List UInt8) (hs:s.length≤1000000) {n m:Nat} (hr:rdNum s=some (n,m)) (w:World) (hne:bt ≠ gx) (h:Blk w bt 215 #[strV s]) (hx:Blk w gx 64 (vcells (kv 2))) :
 Calls Tryz.prog 164 #[.pointer (some ⟨bt,0,none⟩),.pointer (some ⟨gx,0,none⟩)] w (KRead bt gx ⟨2,0,n,⟨#[]⟩⟩ (s.drop m) w):=by
 have h1:=h.cell 0
 have h2:=h.frozen 0
 simp only [List.getElem?_toArray,List.getElem?_cons_zero] at h1
 have hml:=(rdNum_le hr).2.1
 have co:=fun W=>conv_ktext s W
 have HN:=Lib.hid (oReadNumber_any _ s hs _ (conv_at s hs w))
 rw [hr] at HN
 have B8:=Lib.hid (bytes_bel s w)
 have HT:=Lib.hid (fun (V:World) (hV:Blk V bt 215 #[strV s])=>ktake_yes bt s m m rfl hml V hV)
 have H:=Lib.hid h
 have HX:=Lib.hid hx
 unfold numV at HN
 unfold strV at h1
 clear hr h hx hs hml
 go_enter Tryz.func164,Tryz.ntmps164
 go_wp2_with fail
 refine HN.out.mono ?_
 rintro e w1 ⟨rfl,hb1⟩
 have hbw:=B8.out.then_ hb1
 have k1:=H.out.below hbw H.out.lt
 have k2:=HX.out.below hbw HX.out.lt
 have k3:=kset_tape (gx:=gx) (r:=s.drop m) k1
 have k4:=k2.far (p:=⟨bt,0,none⟩) (Ne.symm hne) (strV (s.drop m))
 have HBW:=Lib.hid ((BelS.of_bel (S:=fun j=>j ≠ bt∧j ≠ gx) hbw).setCell (p:=⟨bt,0,none⟩) (by show ¬ (bt ≠ bt∧bt ≠ gx);omega) (strV (s.drop m)))
 have HT2:=Lib.hid (HT.out w1 k1)
 generalize hW:w1.setCell ⟨bt,0,none⟩ (strV (s.drop m))=W2 at *
 have c1:W2.cell? ⟨gx,2,none⟩=some (.int .u64 0):=k4.cell 2
 have f1:=k4.frozen 2
 clear hW hb1 hbw k1 k2 co
 go_wp2_with (first
  | (go_at_call 165;refine (kmust_yes _).mono ?_;rintro e w' ⟨rfl,rfl⟩)
  | (go_at_call 161;refine HT2.out.mono ?_;rintro e w' ⟨rfl,rfl⟩;unfold strV))
 go_end0
 exact ⟨rfl,k4.set_ 2 _,k3.far (by exact hne) _,HBW.out.setCell (by show ¬ (gx ≠ bt∧gx ≠ gx);omega) _⟩
end
end Go.Proofs.YtnajjhgbombboaaGreatDoor
