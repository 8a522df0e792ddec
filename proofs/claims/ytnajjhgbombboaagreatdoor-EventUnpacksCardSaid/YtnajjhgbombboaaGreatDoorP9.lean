/-
  Texts behind the statement: part 9.
-/
import Derived.Test.YtnajjhgbombboaaGreatDoorP8
set_option linter.unusedVariables false
set_option linter.unusedSimpArgs false
namespace Go.Proofs.YtnajjhgbombboaaGreatDoor
section
open Go.RowKit
theorem wrap_u64_ (y:Nat) (hy:y<2 ^ 64):IntKind.u64.wrap (y:Int)=(y:Int):=by
 simp only [IntKind.wrap,IntKind.bits,IntKind.signed]
 simp
 omega
theorem bits_xor_u64 (x y:Nat) (hx:x<2 ^ 64) (hy:y<2 ^ 64):bits .xor .u64 (x:Int) (y:Int)=((x ^^^ y:Nat):Int):=by
 unfold bits
 have e:(BitVec.ofInt 64 (x:Int) ^^^ BitVec.ofInt 64 (y:Int)).toNat=x ^^^ y:=by
  simp [BitVec.toNat_xor,BitVec.toNat_ofInt]
  rw [Nat.mod_eq_of_lt (show x<18446744073709551616 from hx),Nat.mod_eq_of_lt (show y<18446744073709551616 from hy)]
 show IntKind.u64.wrap ((BitVec.ofInt 64 (x:Int) ^^^ BitVec.ofInt 64 (y:Int)).toNat:Int)=_
 rw [e]
 exact wrap_u64 _ (Nat.xor_lt_two_pow hx hy)
theorem xor_lo {y:Nat} (hy:y<2 ^ 63):y ^^^ 2 ^ 63=2 ^ 63+y:=by
 apply Nat.eq_of_testBit_eq
 intro i
 rw [Nat.testBit_xor,Nat.testBit_two_pow]
 rcases Nat.lt_trichotomy i 63 with h | h | h
 ·rw [Nat.testBit_two_pow_add_gt h,decide_eq_false (by omega)]
  simp
 ·subst h
  rw [Nat.testBit_two_pow_add_eq]
  simp
 ·rw [Nat.testBit_lt_two_pow (Nat.lt_of_lt_of_le hy (Nat.pow_le_pow_right (by decide) (by omega))),Nat.testBit_lt_two_pow (x:=2 ^ 63+y) (Nat.lt_of_lt_of_le (by omega : 2 ^ 63+y<2 ^ 64) (Nat.pow_le_pow_right (by decide) (by omega)))]
  rw [decide_eq_false (by omega)]
  rfl
theorem xor_hi {y:Nat} (hy:y<2 ^ 63):(2 ^ 63+y) ^^^ 2 ^ 63=y:=by
 rw [← xor_lo hy,Nat.xor_assoc,Nat.xor_self,Nat.xor_zero]
theorem xor_sign {n:Int} (h1 : -9223372036854775808≤n) (h2:n≤9223372036854775807):bits .xor .u64 (IntKind.u64.wrap n) 9223372036854775808=(((n+9223372036854775808).toNat:Nat):Int):=by
 by_cases h : 0≤n
 ·obtain ⟨m,rfl⟩ : ∃ m:Nat,n=m:=⟨n.toNat,by omega⟩
  rw [wrap_u64_ m (by omega)]
  have:=bits_xor_u64 m (2 ^ 63) (by omega) (by omega)
  rw [xor_lo (by omega)] at this
  rw [show (9223372036854775808:Int)=((2 ^ 63:Nat):Int) from rfl,this]
  omega
 ·obtain ⟨m,hm⟩ : ∃ m:Nat,n+9223372036854775808=m:=⟨(n+9223372036854775808).toNat,by omega⟩
  have hw:IntKind.u64.wrap n=((2 ^ 63+m:Nat):Int):=by
   simp only [IntKind.wrap,IntKind.bits,IntKind.signed]
   simp
   omega
  rw [hw]
  have:=bits_xor_u64 (2 ^ 63+m) (2 ^ 63) (by omega) (by omega)
  rw [xor_hi (by omega)] at this
  rw [show (9223372036854775808:Int)=((2 ^ 63:Nat):Int) from rfl,this]
  omega
theorem xor_back {u:Nat} (h:u<2 ^ 64):IntKind.i64.wrap (bits .xor .u64 (u:Int) 9223372036854775808)=(u:Int) - 9223372036854775808:=by
 have:=bits_xor_u64 u (2 ^ 63) h (by omega)
 rw [show (9223372036854775808:Int)=((2 ^ 63:Nat):Int) from rfl,this,IntKind.wrap_i64]
 by_cases hl:u<2 ^ 63
 ·rw [xor_lo hl]
  omega
 ·obtain ⟨y,rfl⟩ : ∃ y,u=2 ^ 63+y:=⟨u - 2 ^ 63,by omega⟩
  rw [xor_hi (by omega)]
  omega
end
section
section
open Go.RowKit Go.Shelf Go.Lib
attribute [local go_sem] Oper.semAt_some
theorem reads_one {V:World} {g:Nat} {u:Value} (h:V.cell? ⟨g,0,none⟩=some u):Reads V V.heap.size 1 (some ⟨g,0,none⟩) 1 [u] :=
 ⟨rfl,fun _=>⟨_,rfl,World.block_lt_of_cell? (w:=V) (a:=⟨g,0,none⟩) h,fun j x hx=>by
  have hj:j=0:=by have:=(List.getElem?_eq_some_iff.1 hx).1;simp at this;omega
  subst hj
  simp at hx
  subst hx
  rw [add_free]
  exact h⟩⟩
end
end
section
open Go.RowKit Go.Shelf Go.Lib
def gaveUp:List PanicEntry:=[{ v:=.iface 35 (.int .i64 140),recovered:=false }]
theorem must_yes (w:World):Calls Tryz.prog 137 #[.bool true] w fun e w'=>e = .returned (.tuple #[])∧w=w':=by
 go_enter Tryz.func137,Tryz.ntmps137
 go_wp2
 go_end0
 exact ⟨rfl,rfl⟩
theorem must_no (w:World):Calls Tryz.prog 137 #[.bool false] w fun e w'=>e = .panicked gaveUp∧w=w':=by
 go_enter Tryz.func137,Tryz.ntmps137
 go_wp2
 exact ⟨rfl,rfl,rfl⟩
theorem some_yes (A:Option Addr) (n c k:Nat) (hk:k≤n) (hc:n≤c) (hm:c≤maxLen) (w:World):Calls Tryz.prog 198 #[.slice A n c,.int .i64 k] w fun e w'=>e = .returned (.slice A k k)∧w=w':=by
 have h1:(k:Int)≤n:=by omega
 have h2:(n:Int)≤c:=by omega
 have h3:(c:Int)≤9223372036854775807:=by unfold maxLen at hm;omega
 have hkc:(k:Int)≤c:=by omega
 go_enter Tryz.func198,Tryz.ntmps198
 go_wp2_with (go_at_call 137;refine (must_yes _).mono ?_;rintro e w' ⟨rfl,rfl⟩)
 go_ret
 exact ⟨rfl,rfl⟩
def TapeAt (w:World) (bt:Nat) (s:List UInt8):Prop:=∃ A c,w.cell? ⟨bt,0,none⟩=some (.slice A s.length c)∧w.frozen? ⟨bt,0,none⟩=false∧s.length≤c∧c≤maxLen∧Reads w bt 1 A s.length (s.map bv)
theorem TapeAt.bel {w w':World} {bt:Nat} {s:List UInt8} (h:TapeAt w bt s) (hb:Bel w w'):TapeAt w' bt s:=by
 obtain ⟨A,c,h1,h2,h3,h4,h5⟩:=h
 have hlt:bt<w.heap.size:=World.block_lt_of_cell? (w:=w) (a:=⟨bt,0,none⟩) h1
 exact ⟨A,c,hb.c h1,hb.f h1 h2,h3,h4,h5.keep fun p hp=>hb.cell (by omega)⟩
theorem TapeAt.reads {w:World} {bt:Nat} {s:List UInt8} (h:TapeAt w bt s) : ∃ A c,w.cell? ⟨bt,0,none⟩=some (.slice A s.length c)∧BsAt w (.slice A s.length c) s:=by
 obtain ⟨A,c,h1,h2,h3,h4,h5⟩:=h
 have hlt:bt<w.heap.size:=World.block_lt_of_cell? (w:=w) (a:=⟨bt,0,none⟩) h1
 exact ⟨A,c,h1,A,c,rfl,h3,h4,h5.more (by omega)⟩
def GivesTake (s:List UInt8) (k bt:Nat) (w:World) (e:Ending) (w':World):Prop:=∃ A,e = .returned (.slice A k k)∧Reads w' bt 1 A k ((s.take k).map bv)∧TapeAt w' bt (s.drop k)∧w.grownBy w' (some bt)
theorem Reads.head {w:World} {B:Nat} {A:Option Addr} {s:List UInt8} (h:Reads w B 1 A s.length (s.map bv)) (k:Nat) (hk:k≤s.length):Reads w B 1 A k ((s.take k).map bv):=by
 refine ⟨by simp;omega,fun hn=>?_⟩
 obtain ⟨ad,rfl,hb,hc⟩:=h.2 (by omega)
 refine ⟨ad,rfl,hb,fun j u hu=>hc j u ?_⟩
 rw [List.getElem?_map,List.getElem?_take] at hu
 rw [List.getElem?_map]
 split at hu
 ·exact hu
 ·cases hu
theorem Reads.rest {w:World} {B b off:Nat} {s:List UInt8} (h:Reads w B 1 (some ⟨b,off,none⟩) s.length (s.map bv)) (k:Nat) (hk:k≤s.length):Reads w B 1 (some ⟨b,off+k,none⟩) (s.drop k).length ((s.drop k).map bv):=by
 refine ⟨by simp,fun hn=>?_⟩
 rw [List.length_drop] at hn
 obtain ⟨ad,e,hb,hc⟩:=h.2 (by omega)
 cases e
 refine ⟨_,rfl,hb,fun j u hu=>?_⟩
 have:=hc (k+j) u (by
  rw [List.getElem?_map,List.getElem?_drop] at hu
  rw [List.getElem?_map]
  exact hu)
 rw [add_free] at this ⊢
 rw [Nat.add_assoc]
 exact this
set_option maxRecDepth 100000 in
set_option maxHeartbeats 1000000 in
theorem take_yes (bt:Nat) (s:List UInt8) (k:Nat) (hk:k≤s.length) (w:World) (h:TapeAt w bt s):Calls Tryz.prog 184 #[.pointer (some ⟨bt,0,none⟩),.int .i64 k] w (GivesTake s k bt w):=by
 obtain ⟨A,c,h1,h2,h3,h4,h5⟩:=h
 have HS:=Lib.hid (fun V=>some_yes A s.length c k hk h3 h4 V)
 have hrd:=h5.head k hk
 have hI1:(k:Int)≤s.length:=by omega
 have hI2:(s.length:Int)≤c:=by omega
 have hI3:(c:Int)≤9223372036854775807:=by unfold maxLen at h4;omega
 have hlt:bt<w.heap.size:=World.block_lt_of_cell? (w:=w) (a:=⟨bt,0,none⟩) h1
 have hdl:(s.drop k).length=s.length - k:=List.length_drop
 cases A with
 | none =>
   have hs0:s=[]:=by
    rcases Nat.eq_zero_or_pos s.length with h0 | h0
    ·exact List.eq_nil_of_length_eq_zero h0
    ·obtain ⟨ad,e,-⟩:=h5.2 h0;cases e
   subst hs0
   obtain rfl:k=0:=by simpa using hk
   have hg:w.grownBy (w.setCell ⟨bt,0,none⟩ (.slice none 0 c)) (some bt):=grown_setCell _ _ _
   have HFIN:Hid (GivesTake [] 0 bt w (.returned (.slice none 0 0)) (w.setCell ⟨bt,0,none⟩ (.slice none 0 c))) :=
    ⟨none,rfl,Reads.none_,⟨none,c,by go_simp,by go_simp,Nat.zero_le _,h4,Reads.none_⟩,hg⟩
   clear hrd h5 hdl hk h3 hg hI1 hI2
   simp only [List.length_nil] at *
   go_enter Tryz.func184,Tryz.ntmps184
   go_wp2_with (go_at_call 198;refine (HS.out _).mono ?_;rintro e w' ⟨rfl,rfl⟩)
   go_ret
   exact HFIN.out
 | some ad =>
   have hcut:=h5.cut (k:=k) hk h3
   rw [Nat.mul_one,← List.map_drop] at hcut
   by_cases hkc:c=k
   ·rw [if_pos hkc] at hcut
    have hlen:s.length=k:=by omega
    have hd0:s.drop k=[]:=List.drop_eq_nil_of_le (by omega)
    have hg:w.grownBy (w.setCell ⟨bt,0,none⟩ (.slice (some ad) 0 0)) (some bt):=grown_setCell _ _ _
    have HFIN:Hid (GivesTake s k bt w (.returned (.slice (some ad) k k)) (w.setCell ⟨bt,0,none⟩ (.slice (some ad) 0 0))) :=
     ⟨some ad,rfl,hrd.grown hg (Nat.le_of_lt hlt) (fun g e=>by cases e;exact Nat.le_refl _),⟨some ad,0,by rw [hd0];go_simp,by go_simp,by rw [hd0];exact Nat.le_refl _,Nat.zero_le _,by rw [hd0];exact ⟨rfl,fun h=>by simp at h⟩⟩,hg⟩
    rw [hlen] at h1 HS
    clear hrd h5 hdl hk h3 hg hI1 hI2 hcut hd0 hlen
    subst hkc
    go_enter Tryz.func184,Tryz.ntmps184
    go_wp2_with (go_at_call 198;refine (HS.out _).mono ?_;rintro e w' ⟨rfl,rfl⟩)
    go_ret
    exact HFIN.out
   ·rw [if_neg hkc,← hdl] at hcut
    have hg:w.grownBy (w.setCell ⟨bt,0,none⟩ (.slice (some (ad.add k)) (s.length - k) (c - k))) (some bt):=grown_setCell _ _ _
    have HFIN:Hid (GivesTake s k bt w (.returned (.slice (some ad) k k)) (w.setCell ⟨bt,0,none⟩ (.slice (some (ad.add k)) (s.length - k) (c - k)))) :=
     ⟨some ad,rfl,hrd.grown hg (Nat.le_of_lt hlt) (fun g e=>by cases e;exact Nat.le_refl _),⟨some (ad.add k),c - k,by rw [hdl];go_simp,by go_simp,by rw [hdl];omega,by omega,hcut.grown hg (Nat.le_of_lt hlt) (fun g e=>by cases e;exact Nat.le_refl _)⟩,hg⟩
    have hI4:((s.length:Int) - k).toNat=s.length - k:=by omega
    have hI5:((c:Int) - k).toNat=c - k:=by omega
    clear hrd h5 hdl hk h3 hg hcut
    go_enter Tryz.func184,Tryz.ntmps184
    go_wp2_with (go_at_call 198;refine (HS.out _).mono ?_;rintro e w' ⟨rfl,rfl⟩)
    go_ret
    exact HFIN.out
def GivesGot (v:Value) (s:List UInt8) (bt:Nat) (w:World) (e:Ending) (w':World):Prop:=e = .returned v∧TapeAt w' bt s∧w.grownBy w' (some bt)
def GaveUp (bt:Nat) (w:World) (e:Ending) (w':World):Prop:=e = .panicked gaveUp∧w.grownBy w' (some bt)
set_option maxRecDepth 100000 in
theorem gotN_yes (bt:Nat) (s:List UInt8) (hs:s.length≤1000000) (n m:Nat) (hr:rdNum s=some (n,m)) (w:World) (h:TapeAt w bt s):Calls Tryz.prog 183 #[.pointer (some ⟨bt,0,none⟩),.func (.func 74) #[] #[]] w (GivesGot (.int .u64 n) (s.drop m) bt w):=by
 obtain ⟨A,c,h1,hb⟩:=h.reads
 have HN:=Lib.hid (oReadNumber_any _ s hs w hb)
 rw [hr] at HN
 obtain ⟨hm1,hml,-,-⟩:=rdNum_le hr
 have HT:=Lib.hid (fun V (hb:Bel w V)=>take_yes bt s m hml V (h.bel hb))
 clear hr h hb hs hml hm1
 unfold numV at HN
 go_enter Tryz.func183,Tryz.ntmps183
 go_wp2_with fail
 refine HN.out.mono ?_
 rintro e w1 ⟨rfl,hb1⟩
 go_wp2_with (first | (go_at_call 137;refine (must_yes _).mono ?_;rintro e w' ⟨rfl,rfl⟩) | (go_at_call 184;refine (HT.out _ hb1).mono ?_;rintro e w2 ⟨A2,rfl,hr2,ht2,hg2⟩))
 go_ret
 exact ⟨rfl,ht2,grown_trans (hb1.grown _) hg2⟩
set_option maxRecDepth 100000 in
theorem gotN_no (bt:Nat) (s:List UInt8) (hs:s.length≤1000000) (hr:rdNum s=none) (w:World) (h:TapeAt w bt s):Calls Tryz.prog 183 #[.pointer (some ⟨bt,0,none⟩),.func (.func 74) #[] #[]] w (GaveUp bt w):=by
 obtain ⟨A,c,h1,hb⟩:=h.reads
 have HN:=Lib.hid (oReadNumber_any _ s hs w hb)
 rw [hr] at HN
 clear hr h hb hs
 unfold numV at HN
 go_enter Tryz.func183,Tryz.ntmps183
 go_wp2_with fail
 refine HN.out.mono ?_
 rintro e w1 ⟨rfl,hb1⟩
 go_wp2_with (go_at_call 137;refine (must_no _).mono ?_;rintro e w' ⟨rfl,rfl⟩)
 exact ⟨rfl,rfl,hb1.grown _⟩
set_option maxRecDepth 100000 in
theorem gotS_yes (bt:Nat) (s:List UInt8) (hs:s.length≤1000000) (x:List UInt8) (m:Nat) (hr:rdText s=some (x,m)) (w:World) (h:TapeAt w bt s):Calls Tryz.prog 135 #[.pointer (some ⟨bt,0,none⟩),.func (.func 52) #[] #[]] w (GivesGot (strV x) (s.drop m) bt w):=by
 obtain ⟨A,c,h1,hb⟩:=h.reads
 have HN:=Lib.hid (oReadText_any _ s hs w hb)
 rw [hr] at HN
 obtain ⟨hml,hm1,-,-⟩:=rdText_back hr
 have HT:=Lib.hid (fun V (hb:Bel w V)=>take_yes bt s m hml V (h.bel hb))
 clear hr h hb hs hml hm1
 unfold textV at HN
 unfold strV at *
 go_enter Tryz.func135,Tryz.ntmps135
 go_wp2_with fail
 refine HN.out.mono ?_
 rintro e w1 ⟨rfl,hb1⟩
 go_wp2_with (first | (go_at_call 137;refine (must_yes _).mono ?_;rintro e w' ⟨rfl,rfl⟩) | (go_at_call 184;refine (HT.out _ hb1).mono ?_;rintro e w2 ⟨A2,rfl,hr2,ht2,hg2⟩))
 go_ret
 exact ⟨rfl,ht2,grown_trans (hb1.grown _) hg2⟩
set_option maxRecDepth 100000 in
theorem gotS_no (bt:Nat) (s:List UInt8) (hs:s.length≤1000000) (hr:rdText s=none) (w:World) (h:TapeAt w bt s):Calls Tryz.prog 135 #[.pointer (some ⟨bt,0,none⟩),.func (.func 52) #[] #[]] w (GaveUp bt w):=by
 obtain ⟨A,c,h1,hb⟩:=h.reads
 have HN:=Lib.hid (oReadText_any _ s hs w hb)
 rw [hr] at HN
 clear hr h hb hs
 unfold textV at HN
 go_enter Tryz.func135,Tryz.ntmps135
 go_wp2_with fail
 refine HN.out.mono ?_
 rintro e w1 ⟨rfl,hb1⟩
 go_wp2_with (go_at_call 137;refine (must_no _).mono ?_;rintro e w' ⟨rfl,rfl⟩)
 exact ⟨rfl,rfl,hb1.grown _⟩
end
section
section
open Go.RowKit Go.Shelf Go.Lib
theorem TapeAt.lt {w:World} {bt:Nat} {s:List UInt8} (h:TapeAt w bt s):bt<w.heap.size:=by
 obtain ⟨A,c,h1,-⟩:=h
 exact World.block_lt_of_cell? (w:=w) (a:=⟨bt,0,none⟩) h1
theorem TapeAt.setCell {w:World} {bt:Nat} {s:List UInt8} (h:TapeAt w bt s) {p:Addr} (hp:bt<p.block) (v:Value):TapeAt (w.setCell p v) bt s:=by
 obtain ⟨A,c,h1,h2,h3,h4,h5⟩:=h
 obtain ⟨pb,po,ps⟩:=p
 have hp:bt<pb:=hp
 exact ⟨A,c,(World.cell?_setCell_other w _ _ v (fun e=>by injection e with e1;omega)).trans h1,(World.frozen?_of_block (Below.heap_setCell _ _ _ _ (by show bt ≠ pb;omega))).trans h2,h3,h4,h5.setCell (by show bt≤pb;omega) v⟩
end
section
open Go.RowKit Go.Shelf Go.Lib
theorem ownsRow_grown {w w':World} {base bt:Nat} {e:TypeId} {size:Nat} {v:Value} {n:Nat} {xs:List Value} (h:w.ownsRow base e size v n xs) (hg:w.grownBy w' (some bt)) (hb:bt<base):w'.ownsRow base e size v n xs:=by
 refine ⟨h.1,?_⟩
 rcases h.2 with h2 | ⟨g,cap,cur,hv,hgb,hh,r⟩
 ·exact .inl h2
 ·exact .inr ⟨g,cap,cur,hv,hgb,(hg.block g (Array.getElem?_eq_some_iff.1 hh).1 (fun e=>by have:=Option.some.inj e;omega)).trans hh,r⟩
theorem grown_own {w W W':World} {bt:Nat} {row:Option Nat} (h:w.grownBy W (some bt)) (h':W.grownBy W' row) (hr : ∀ j,row=some j→w.heap.size≤j):w.grownBy W' (some bt) :=
 ⟨h'.os.trans h.os,h'.tape.trans h.tape,h'.output.trans h.output,Nat.le_trans h.size h'.size,fun i hi hn=>(h'.block i (Nat.lt_of_lt_of_le hi h.size) (fun e=>by have:=hr i e.symm;omega)).trans (h.block i hi hn)⟩
theorem TapeAt.own {W W':World} {bt:Nat} {s:List UInt8} {row:Option Nat} (h:TapeAt W bt s) (hg:W.grownBy W' row) (hr : ∀ j,row=some j→bt<j):TapeAt W' bt s:=by
 have hlt:=h.lt
 obtain ⟨A,c,h1,h2,h3,h4,h5⟩:=h
 have hb:=fun i (hi:i≤bt)=>hg.block i (by omega) (fun e=>by have:=hr i e.symm;omega)
 exact ⟨A,c,grown_c hg h1 (fun e=>by have:=hr bt e.symm;omega),grown_f hg h1 h2 (fun e=>by have:=hr bt e.symm;omega),h3,h4,h5.keep fun p hp=>World.cell?_of_block (hb _ (by omega))⟩
end
section
open Go.RowKit Go.Shelf Go.Lib
theorem assert_errno (n:Int) (w:World):(Instr.typeAssert (.iface 35 (.int .i64 n)) 20 35 true).run Tryz.prog w = .ok (.tuple #[.int .i64 n,.bool true]) w:=by kernel_rfl
theorem neq_errno (n:Int) (w:World):(binOp BinOp.neq 20 (.iface 35 (.int .i64 n)) .nilIface).run Tryz.prog w = .ok (.bool true) w:=by kernel_rfl
theorem neq_nil (w:World):(binOp BinOp.neq 20 .nilIface .nilIface).run Tryz.prog w = .ok (.bool false) w:=by kernel_rfl
theorem caught_idle (p c:Value) (w:World):CallsD Tryz.prog 132 #[p,c] .returning w fun e u' w'=>e = .returned (.tuple #[])∧u' = .returning∧w'=w:=by
 have hn:=neq_nil
 refine callsD_of_wpS Tryz.func132 rfl fun c₀ cs hu=>?_
 apply wpS_seq
 apply wpS_region
 simp [wpOpsS,go_sem,recoverD,hu,Tryz.ntmps132,Exit.thenS]
 simp only [Array.replicate,List.replicate,List.setIfInBounds_toArray,List.set_cons_succ,List.set_cons_zero,List.append_toArray,List.cons_append,List.nil_append]
 refine wpS_of_wp ?_
 go_wp2
 cases c₀
 simp_all [bodyPostS,results,Tryz.results132]
end
section
open Go.RowKit Go.Shelf Go.Lib
theorem right_cols {cols:List Col} {key:List Int} {uq:List (List Int)} (h:rightS cols key uq=true):(∀ c ∈ cols,rightB c=true)∧1≤cols.length∧cols.length≤8:=by
 unfold rightS at h
 rw [Bool.and_eq_true] at h
 obtain ⟨h1,h2⟩:=h
 have h1:=of_decide_eq_true h1
 refine ⟨fun c hc=>?_,h1.1,h1.2.1⟩
 rw [Bool.and_eq_true,Bool.and_eq_true] at h2
 have h3:=List.all_eq_true.1 h2.2.1
 obtain ⟨i,hi,rfl⟩:=List.getElem_of_mem hc
 have:=h3 i (List.mem_range.2 hi)
 unfold colB at this
 rw [List.getElem?_eq_getElem hi] at this
 simp at this
 exact this.1
end
section
open Go.RowKit Go.Shelf Go.Lib
theorem size_pos {t z:Int} (h:sizeB t z=true) : 0≤z∧z≤200:=by
 unfold sizeB at h
 split at h
 ·have:=of_decide_eq_true h;omega
 ·split at h
  ·have:=of_decide_eq_true h;omega
  ·have:=of_decide_eq_true h;omega
end
end
section
open Go.RowKit Go.Shelf Go.Lib
def bNat (b:Bool):Nat:=if b=true then 1 else 0
def encCol (c:Col):List UInt8:=textB c.name.data.toList ++ (numB c.t.toNat ++ (numB c.z.toNat ++ numB (bNat c.null)))
def encCols:List Col→List UInt8
 | []=>[]
 | c :: cs=>encCol c ++ encCols cs
def encInts:List Int→List UInt8
 | []=>[]
 | n :: l=>numB n.toNat ++ encInts l
def encList (l:List Int):List UInt8:=numB l.length ++ encInts l
def encLists:List (List Int)→List UInt8
 | []=>[]
 | l :: ls=>encList l ++ encLists ls
def encSch (cols:List Col) (key:List Int) (uq:List (List Int)):List UInt8:=numB cols.length ++ (encCols cols ++ (encList key ++ (numB uq.length ++ encLists uq)))
def encSR (cols:List Col) (key:List Int) (uq:List (List Int)):List UInt8×Int:=if rightS cols key uq=true then (encSch cols key uq,0) else ([],2)
theorem encCols_app : ∀ (a:List Col) (c:Col),encCols (a ++ [c])=encCols a ++ encCol c
 | [],c=>by show encCol c ++ []=[] ++ encCol c;simp
 | d :: a,c=>by show encCol d ++ encCols (a ++ [c])=encCol d ++ encCols a ++ encCol c;rw [encCols_app a c,List.append_assoc]
theorem encInts_app : ∀ (a:List Int) (c:Int),encInts (a ++ [c])=encInts a ++ numB c.toNat
 | [],c=>by show numB c.toNat ++ []=[] ++ numB c.toNat;simp
 | d :: a,c=>by show numB d.toNat ++ encInts (a ++ [c])=numB d.toNat ++ encInts a ++ numB c.toNat;rw [encInts_app a c,List.append_assoc]
theorem encLists_app : ∀ (a:List (List Int)) (c:List Int),encLists (a ++ [c])=encLists a ++ encList c
 | [],c=>by show encList c ++ []=[] ++ encList c;simp
 | d :: a,c=>by show encList d ++ encLists (a ++ [c])=encList d ++ encLists a ++ encList c;rw [encLists_app a c,List.append_assoc]
theorem numB_9 {n:Nat} (h:n<2 ^ 64):(numB n).length≤9:=by rw [numB_length];have:=needN_8 h;omega
def Row8 (w0:World) (base n:Nat) (v:Value) (t:List UInt8) (V:World):Prop:=t.length=n∧V.ownsRow base 5 1 v n (t.map bv)∧Bel w0 V∧w0.heap.size≤base∧base≤V.heap.size
theorem Row8.bel {w0:World} {base n:Nat} {v:Value} {t:List UInt8} {V V':World} (h:Row8 w0 base n v t V) (hb:Bel V V'):Row8 w0 base n v t V' :=
 ⟨h.1,ownsRow_bel h.2.1 hb,h.2.2.1.then_ hb,h.2.2.2.1,Nat.le_trans h.2.2.2.2 hb.size⟩
def Src8 (m:Nat) (A:Option Addr) (y:List UInt8) (V:World):Prop:=y.length=m∧Reads V V.heap.size 1 A m (y.map bv)
theorem Src8.bel {m:Nat} {A:Option Addr} {y:List UInt8} {V V':World} (h:Src8 m A y V) (hb:Bel V V'):Src8 m A y V':=⟨h.1,h.2.belH hb⟩
theorem givesB_src {x:List UInt8} {w w':World} {e:Ending} (h:GivesB x w e w') : ∃ A m c,e = .returned (.slice A m c)∧Hid (Src8 m A x w')∧Bel w w':=by
 obtain ⟨A,c,rfl,ho,hb⟩:=h
 exact ⟨A,_,c,rfl,⟨rfl,Reads.of_own ho⟩,hb⟩
theorem givesB_row {x:List UInt8} {w0 w w':World} {e:Ending} (hb0:Bel w0 w) (h:GivesB x w e w') : ∃ A m c,e = .returned (.slice A m c)∧Hid (Row8 w0 w.heap.size m (.slice A m c) x w')∧Bel w w':=by
 obtain ⟨A,c,rfl,ho,hb⟩:=h
 exact ⟨A,_,c,rfl,⟨rfl,ho,hb0.then_ hb,hb0.size,hb.size⟩,hb⟩
theorem Row8.gives {w0:World} {base n:Nat} {A:Option Addr} {c:Nat} {t:List UInt8} {V:World} (h:Row8 w0 base n (.slice A n c) t V) : ∃ v,Value.slice A n c=v∧BsAt V v t∧Bel w0 V:=by
 obtain ⟨rfl,h2,h3,-,-⟩:=h
 exact ⟨_,rfl,BsAt.of_own h2,h3⟩
set_option maxRecDepth 100000 in
theorem app8 {ops:Array Oper} {rest:List Oper} {o:Oper} {a:Act} {Q:Exit→Act→World→Prop} {w:World} (hgd:o.guard=none) (s x:Operand) (ho:o.op = .call { callee:=.builtin .append,args:=#[s,x],argTypes:=#[34,34] })
 {w0:World} {base n:Nat} {A:Option Addr} {c:Nat} {l:List UInt8} (H:Row8 w0 base n (.slice A n c) l w) (hs:a.eval s = .slice A n c) {m:Nat} {A2:Option Addr} {c2:Nat} {y:List UInt8} (hy:Src8 m A2 y w) (hx:a.eval x = .slice A2 m c2) (hm:n+m≤1000000)
 (h : ∀ A' c' w',Hid (Row8 w0 base (n+m) (.slice A' (n+m) c') (l ++ y) w')→wpList Tryz.prog ops Q rest (a.put o.dst (.slice A' (n+m) c')) w'):wpList Tryz.prog ops Q (o :: rest) a w:=by
 obtain ⟨i0,hi0,hz0,hz1,hz2⟩:=info_parts infoU8
 obtain ⟨h1,h2,h3,h4,h5⟩:=H
 refine wpList_append_any w hgd s x 34 ho base 5 i0 _ 1 1 Tryz.underlying34 hi0 hz0 hz1 hz2 rfl (by omega) _ n _ hs h2 _ A2 m c2 _ hx hy.2 (bv_one y) (by unfold maxLen;omega) (by omega) h5 ?_
 intro v' w' ho' hg hat
 obtain ⟨A',c',rfl⟩:=row_form ho'
 refine h A' c' w' ⟨by rw [List.length_append,h1,hy.1],by rw [List.map_append];exact ho',Below.grown h3 hg h3.size (fun j e=>Nat.le_trans h4 (h2.lt j e).1),h4,Nat.le_trans h5 hg.size⟩
theorem ints_at {w0:World} {v:Value} {l:List Int} (h:IntsAt w0 v l) : ∃ A c,v = .slice A l.length c∧l.length≤9223372036854775807 ∧ ∀ (k:Nat) (x:Int),l[k]? = some x → ∃ b off,A=some ⟨b,off,none⟩∧w0.cell? ⟨b,off+k,none⟩=some (.int .i64 x):=by
 obtain ⟨A,c,rfl,hc,hm,hi⟩:=h
 refine ⟨A,c,rfl,by unfold maxLen at hm;omega,fun k x hx=>?_⟩
 have hlt:=(List.getElem?_eq_some_iff.1 hx).1
 obtain ⟨b,off,rfl,hi2⟩:=hi (by omega)
 exact ⟨b,off,rfl,hi2 k x hx⟩
def SmallI (l:List Int):Prop:=∀ x ∈ l,0≤x∧x≤1000000
set_option maxRecDepth 100000 in
set_option maxHeartbeats 2000000 in
theorem cdlists_any (A:Option Addr) (c n base:Nat) (t0:List UInt8) (vl:Value) (l:List Int) (w0 w:World) (hl:IntsAt w0 vl l) (h0:SmallI l) (hm:l.length≤100) (hn:n≤10000) (H:Row8 w0 base n (.slice A n c) t0 w) :
 Calls Tryz.prog 131 #[.slice A n c,vl] w fun e w'=>∃ A' n' c',e = .returned (.slice A' n' c')∧n'≤n+9+9 * l.length∧Hid (Row8 w0 base n' (.slice A' n' c') (t0 ++ encList l) w'):=by
 have H:=Lib.hid H
 obtain ⟨Al,cl,rfl,hlI,hi⟩:=ints_at hl
 have HI:=Lib.hid hi
 have H0:=Lib.hid h0
 have hcv:IntKind.u64.wrap (l.length:Int)=(l.length:Int):=by simp only [IntKind.wrap,IntKind.bits,IntKind.signed];simp;omega
 have HN:=Lib.hid (fun V=>oNumberE_any l.length (by omega) V)
 have h9:(numB l.length).length≤9:=numB_9 (by omega)
 clear hi h0 hl
 go_enter Tryz.func131,Tryz.ntmps131
 go_wp2_with fail
 refine (HN.out _).mono ?_
 rintro e w1 h1
 obtain ⟨A2,m,c2,rfl,HS,hb1⟩:=givesB_src h1
 have H1:=Lib.hid (H.out.bel hb1)
 have hm9:m≤9:=by rw [← HS.out.1];exact h9
 clear h1 hb1 H h9 HN
 go_wp2_with (at_builtin;refine app8 rfl (.tmp 7) (.tmp 11) rfl H1.out (by rfl) HS.out (by rfl) (by omega) ?_;intro A9 c9 w9 H9)
 go_loopw [0,15] (fun v i wr=>∃ (k nn:Nat) (A':Option Addr) (c':Nat),k≤l.length∧nn≤n+9+9 * k∧v = .slice A' nn c'∧i = .int .i64 k∧Hid (Row8 w0 base nn (.slice A' nn c') (t0 ++ (numB l.length ++ encInts (l.take k))) wr)) (fun v i _=>l.length - (intOf i).toNat)
 case atStart=>exact ⟨0,_,_,_,Nat.zero_le _,by omega,rfl,rfl,by have:=H9.out;show Row8 _ _ _ _ (t0 ++ (numB l.length ++ [])) _;rw [List.append_nil];exact this⟩
 case round =>
  obtain ⟨k,nn,A',c',hk,hnn,rfl,rfl,HR⟩:=hrel
  by_cases hlt:k<l.length
  ·obtain ⟨x,hx⟩ : ∃ x,l[k]? = some x:=⟨_,List.getElem?_eq_getElem hlt⟩
   obtain ⟨b,off,rfl,hc⟩:=HI.out k x hx
   have p0:=HR.out.2.2.1.c hc
   have hkI:(k:Int)<l.length:=by omega
   obtain ⟨hx0,hx1⟩:=H0.out x (List.mem_of_getElem? hx)
   have htk:encInts (l.take (k+1))=encInts (l.take k) ++ numB x.toNat:=by rw [List.take_add_one,hx];exact encInts_app _ _
   have HTK:=Lib.hid htk
   obtain ⟨y,rfl⟩:=Int.eq_ofNat_of_zero_le hx0
   have hcx:IntKind.u64.wrap (y:Int)=(y:Int):=by simp only [IntKind.wrap,IntKind.bits,IntKind.signed];simp;omega
   have HNX:=Lib.hid (fun V=>oNumberE_any y (by omega) V)
   have h9:(numB y).length≤9:=numB_9 (by omega)
   clear hx hc htk hx0
   go_wp2_with fail
   refine (HNX.out _).mono ?_
   rintro e w2 h2
   obtain ⟨A3,m3,c3,rfl,HS3,hb2⟩:=givesB_src h2
   have H2:=Lib.hid (HR.out.bel hb2)
   have hm3:m3≤9:=by rw [← HS3.out.1];exact h9
   clear h2 hb2 p0 h9 HNX HR
   go_wp2_with (at_builtin;refine app8 rfl (.tmp 19) (.tmp 22) rfl H2.out (by rfl) HS3.out (by rfl) (by omega) ?_;intro A10 c10 w10 H10)
   go_roundw
   case rel=>exact ⟨k+1,_,_,_,by omega,by omega,rfl,by go_num,by rw [HTK.out];have:=H10.out;rw [List.append_assoc,List.append_assoc] at this;exact this⟩
   case measure=>simp [intOf];omega
  ·obtain rfl:k=l.length:=by omega
   have HF:Hid (Row8 w0 base nn (.slice A' nn c') (t0 ++ encList l) wr):=by
    have:=HR.out
    rw [List.take_length] at this
    exact this
   clear hlt hk
   go_wp2
   go_ret
   exact ⟨_,_,_,rfl,hnn,HF⟩
end
end Go.Proofs.YtnajjhgbombboaaGreatDoor
