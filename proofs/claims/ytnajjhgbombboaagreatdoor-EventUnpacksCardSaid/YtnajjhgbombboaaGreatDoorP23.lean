/-
  Texts behind the statement: part 23.
-/
import Derived.Test.YtnajjhgbombboaaGreatDoorP22
import Derived.Deep.RegionHeld3
set_option linter.unusedVariables false
set_option linter.unusedSimpArgs false
namespace Go.Proofs.YtnajjhgbombboaaGreatDoor
section
open Go.RowKit Go.Shelf Go.Lib
attribute [local go_sem] Oper.semAt_some
def prow (p:ByteArray×ByteArray):List Value:=[.string p.1,.string p.2]
def prows (l:List (ByteArray×ByteArray)):List Value:=l.flatMap prow
theorem prows_append (l k:List (ByteArray×ByteArray)):prows (l ++ k)=prows l ++ prows k:=by simp [prows]
theorem prows_at : ∀ (l:List (ByteArray×ByteArray)) (k j:Nat) (x:ByteArray×ByteArray),l[k]? = some x→j<2→(prows l)[k * 2+j]? = (prow x)[j]?
 | [],k,j,x,h,hj=>by simp at h
 | p :: l,0,j,x,h,hj=>by
   simp at h
   subst h
   show (prow p ++ prows l)[0 * 2+j]? = _
   rw [Nat.zero_mul,Nat.zero_add,List.getElem?_append_left (by simp [prow];omega)]
 | p :: l,k+1,j,x,h,hj=>by
   have h:l[k]? = some x:=h
   show (prow p ++ prows l)[(k+1) * 2+j]? = _
   rw [List.getElem?_append_right (by simp [prow];omega)]
   have e:(k+1) * 2+j - (prow p).length=k * 2+j:=by simp [prow];omega
   rw [e]
   exact prows_at l k j x h hj
theorem PairsAt.of_own {w:World} {b n:Nat} {v:Value} {l:List (ByteArray×ByteArray)} (h:w.ownsRow b 68 2 v n (prows l)) (hn:n=l.length):PairsAt w v l:=by
 subst hn
 rcases h.2 with ⟨rfl,hl⟩ | ⟨g,cap,cur,rfl,hbg,hg,h2,h3,h4,h5⟩
 ·exact ⟨none,0,by rw [hl],by omega,by unfold maxLen;omega,fun h0=>by omega⟩
 ·refine ⟨_,cap,rfl,h2,by omega,fun h0=>⟨g,0,rfl,fun i x hx=>?_⟩⟩
  have hc : ∀ j u,(prows l)[j]? = some u→w.cell? ⟨g,0+j,none⟩=some u:=fun j u hu=>by
   have:=h.cells (g:=g) rfl j u hu
   rw [Addr.add_lit] at this
   exact this
  refine ⟨?_,?_⟩
  ·have:=hc (i * 2) _ ((prows_at l i 0 x hx (by omega)).trans rfl);exact this
  ·have:=hc (i * 2+1) _ ((prows_at l i 1 x hx (by omega)).trans rfl);rw [← Nat.add_assoc] at this;exact this
def PairsIn (n:Nat) (w:World) (v:Value) (l:List (ByteArray×ByteArray)):Prop:=∃ b,n≤b∧w.ownsRow b 68 2 v l.length (prows l)
theorem PairsIn.at_ {n:Nat} {w:World} {v:Value} {l:List (ByteArray×ByteArray)} (h:PairsIn n w v l):PairsAt w v l:=by obtain ⟨b,-,h⟩:=h;exact PairsAt.of_own h rfl
structure EvIn (B:Nat) (w:World) (vc vk vu vo vn vs:Value) (e:Ev):Prop where
 c:ColsIn B w vc e.c
 ky:IntsIn B w vk e.ky
 u:ListsIn B w vu e.u
 o:ValsIn B w vo e.o
 n:ValsIn B w vn e.n
 ns:PairsIn B w vs e.ns
theorem EvIn.at_ {n:Nat} {w:World} {vc vk vu vo vn vs:Value} {e:Ev} (h:EvIn n w vc vk vu vo vn vs e):EvAt w vc vk vu vo vn vs e:=⟨h.c.at_,h.ky.at_,h.u.at_,h.o.at_,h.n.at_,h.ns.at_⟩
def Above (n:Nat) (w w':World):Prop:=∀ j,n≤j→j<w.heap.size→w'.heap[j]? = w.heap[j]?
theorem own_above {n:Nat} {w w':World} (ha:Above n w w') {b e z m:Nat} {v:Value} {xs:List Value} (h:w.ownsRow b e z v m xs) (hb:n≤b):w'.ownsRow b e z v m xs:=by
 refine ⟨h.1,?_⟩
 rcases h.2 with h2 | ⟨g,cap,cur,hv,hgb,hh,r⟩
 ·exact .inl h2
 ·exact .inr ⟨g,cap,cur,hv,hgb,(ha g (by omega) (Array.getElem?_eq_some_iff.1 hh).1).trans hh,r⟩
theorem EvIn.keep {n:Nat} {w w':World} {vc vk vu vo vn vs:Value} {e:Ev} (h:EvIn n w vc vk vu vo vn vs e) (ha:Above n w w'):EvIn n w' vc vk vu vo vn vs e:=by
 refine ⟨?_,?_,?_,?_,?_,?_⟩
 ·obtain ⟨b,h1,h2⟩:=h.c;exact ⟨b,h1,own_above ha h2 h1⟩
 ·obtain ⟨b,h1,h2⟩:=h.ky;exact ⟨b,h1,own_above ha h2 h1⟩
 ·obtain ⟨b,m,us,h1,h2,h3,h4⟩:=h.u
  exact ⟨b,m,us,h1,h2,own_above ha h3 h1,h4.1,fun j u l hu hl=>by obtain ⟨b',h5,h6⟩:=h4.2 j u l hu hl;exact ⟨b',h5,own_above ha h6 (Nat.le_trans h2 h5)⟩⟩
 ·obtain ⟨b,h1,h2⟩:=h.o;exact ⟨b,h1,own_above ha h2 h1⟩
 ·obtain ⟨b,h1,h2⟩:=h.n;exact ⟨b,h1,own_above ha h2 h1⟩
 ·obtain ⟨b,h1,h2⟩:=h.ns;exact ⟨b,h1,own_above ha h2 h1⟩
theorem ColsIn.less {n m:Nat} {w:World} {v:Value} {l:List Col} (h:ColsIn n w v l) (hm:m≤n):ColsIn m w v l:=by obtain ⟨b,h1,h2⟩:=h;exact ⟨b,Nat.le_trans hm h1,h2⟩
theorem IntsIn.less {n m:Nat} {w:World} {v:Value} {l:List Int} (h:IntsIn n w v l) (hm:m≤n):IntsIn m w v l:=by obtain ⟨b,h1,h2⟩:=h;exact ⟨b,Nat.le_trans hm h1,h2⟩
theorem ListsIn.less {n m:Nat} {w:World} {v:Value} {l:List (List Int)} (h:ListsIn n w v l) (hm:m≤n):ListsIn m w v l:=by obtain ⟨b,m',us,h1,h2,h3,h4⟩:=h;exact ⟨b,m',us,Nat.le_trans hm h1,Nat.le_trans hm h2,h3,h4⟩
theorem ValsIn.less {n m:Nat} {w:World} {v:Value} {l:List Val} (h:ValsIn n w v l) (hm:m≤n):ValsIn m w v l:=by obtain ⟨b,h1,h2⟩:=h;exact ⟨b,Nat.le_trans hm h1,h2⟩
theorem cols_none (n:Nat) (w:World):ColsIn n w (.slice none 0 0) []:=⟨n,Nat.le_refl _,World.ownsRow_nil _ _ _ _⟩
theorem ints_none (n:Nat) (w:World):IntsIn n w (.slice none 0 0) []:=⟨n,Nat.le_refl _,World.ownsRow_nil _ _ _ _⟩
theorem lists_none (n:Nat) (w:World):ListsIn n w (.slice none 0 0) []:=⟨n,n,[],Nat.le_refl _,Nat.le_refl _,World.ownsRow_nil _ _ _ _,rfl,fun j u l hu=>by simp at hu⟩
theorem vals_none (n:Nat) (w:World):ValsIn n w (.slice none 0 0) []:=⟨n,Nat.le_refl _,World.ownsRow_nil _ _ _ _⟩
theorem pairs_none (n:Nat) (w:World):PairsIn n w (.slice none 0 0) []:=⟨n,Nat.le_refl _,World.ownsRow_nil _ _ _ _⟩
def NoByte (cs:Array Value):Prop:=∀ (i:Nat) (c:UInt8),cs[i]? ≠ some (bv c)
theorem tape_ev {V:World} {gx bt:Nat} {T:TypeId} {cs:Array Value} {r:List UInt8} (h:TapeAt V bt r) (hB:Blk V gx T cs) (hcs:NoByte cs) (hg:gx<bt) (i:Nat) (u:Value):TapeAt (V.setCell ⟨gx,i,none⟩ u) bt r:=by
 have hG:=grown_setCell V ⟨gx,i,none⟩ u
 have hlt:=h.lt
 obtain ⟨A,c,k1,k2,k3,k4,k5⟩:=h
 refine ⟨A,c,grown_c hG k1 (fun e=>by have:=Option.some.inj e;dsimp only at this;omega),grown_f hG k1 k2 (fun e=>by have:=Option.some.inj e;dsimp only at this;omega),k3,k4,k5.1,fun hn=>?_⟩
 obtain ⟨ad,rfl,hb,hc⟩:=k5.2 hn
 refine ⟨ad,rfl,hb,fun j x hx=>?_⟩
 have hcell:=hc j x hx
 refine grown_c hG hcell (fun e=>?_)
 have e:(ad.add j).block=gx:=Option.some.inj e
 rw [List.getElem?_map] at hx
 obtain ⟨b,-,rfl⟩:=Option.map_eq_some_iff.1 hx
 generalize hq:ad.add j=q at *
 obtain ⟨qb,qo,qs⟩:=q
 try dsimp only at e
 subst e
 obtain rfl:qs=none:=World.cell?_spot hcell
 rw [hB.cell] at hcell
 exact hcs _ _ hcell
structure RS (gx bt:Nat) (w V:World) (cs:Array Value) (r:List UInt8):Prop where
 keep:BelS (fun j=>j ≠ gx∧j ≠ bt) w V
 box:Blk V gx 31 cs
 no:NoByte cs
 tape:TapeAt V bt r
 lt:gx<bt
 old:bt<w.heap.size
theorem RS.taped {gx bt:Nat} {w V V':World} {cs:Array Value} {r r':List UInt8} (h:RS gx bt w V cs r) (hg:V.grownBy V' (some bt)) (ht:TapeAt V' bt r'):RS gx bt w V' cs r' :=
 ⟨h.keep.grown hg (fun k e hk=>by cases e;exact hk.2 rfl),h.box.grown hg (fun e=>by have:=h.lt;have:=Option.some.inj e;omega),h.no,ht,h.lt,h.old⟩
theorem RS.bel {gx bt:Nat} {w V V':World} {cs:Array Value} {r:List UInt8} (h:RS gx bt w V cs r) (hb:Bel V V'):RS gx bt w V' cs r:=h.taped (hb.grown _) (h.tape.bel hb)
theorem RS.own {gx bt:Nat} {w V V':World} {cs:Array Value} {r:List UInt8} {row:Option Nat} (h:RS gx bt w V cs r) (hg:V.grownBy V' row) (hr : ∀ j,row=some j→w.heap.size≤j):RS gx bt w V' cs r :=
 ⟨⟨hg.os.trans h.keep.os,hg.tape.trans h.keep.tape,hg.output.trans h.keep.output,Nat.le_trans h.keep.size hg.size,fun k hk hl=>(hg.block k (Nat.lt_of_lt_of_le hl h.keep.size) (fun e=>by have:=hr k e.symm;omega)).trans (h.keep.block k hk hl)⟩,
  h.box.grown hg (fun e=>by have:=hr gx e.symm;have:=h.lt;have:=h.old;omega),h.no,h.tape.own hg (fun j e=>by have:=hr j e;have:=h.old;omega),h.lt,h.old⟩
theorem RS.set {gx bt:Nat} {w V:World} {cs:Array Value} {r:List UInt8} (h:RS gx bt w V cs r) (i:Nat) (u:Value) (hu : ∀ c:UInt8,u ≠ bv c):RS gx bt w (V.setCell ⟨gx,i,none⟩ u) (cs.setIfInBounds i u) r :=
 ⟨h.keep.setCell (p:=⟨gx,i,none⟩) (fun hk=>hk.1 rfl) u,h.box.set_ i u,fun j c e=>by
  rw [Array.getElem?_setIfInBounds] at e
  split at e
  ·split at e
   ·exact hu c (Option.some.inj e)
   ·cases e
  ·exact h.no j c e,tape_ev h.tape h.box h.no h.lt i u,h.lt,h.old⟩
theorem RS.size {gx bt:Nat} {w V:World} {cs:Array Value} {r:List UInt8} (h:RS gx bt w V cs r):bt+1≤V.heap.size:=Nat.le_trans h.old h.keep.size
theorem above_tape {bt n:Nat} {V V':World} (hg:V.grownBy V' (some bt)) (hn:bt<n):Above n V V':=fun j hj hl=>hg.block j hl (fun e=>by cases e;omega)
theorem above_bel {n:Nat} {V V':World} (hb:Bel V V'):Above n V V':=fun j hj hl=>hb.block j hl
theorem above_set {gx n i:Nat} {V:World} {u:Value} (hn:gx<n):Above n V (V.setCell ⟨gx,i,none⟩ u):=fun j hj hl=>Below.heap_setCell _ _ _ _ (by show j ≠ gx;omega)
theorem nobyte_ev {k:Int} {t:ByteArray} {Ac Ak Au Ao An As:Option Addr} {nc cc nk ck nu cu no co nn cn ns cs:Nat} : NoByte (evCells k t (.slice Ac nc cc) (.slice Ak nk ck) (.slice Au nu cu) (.slice Ao no co) (.slice An nn cn) (.slice As ns cs)):=fun i c=>by
 match i with
 | 0=>exact fun e=>by cases e
 | 1=>exact fun e=>by cases e
 | 2=>exact fun e=>by cases e
 | 3=>exact fun e=>by cases e
 | 4=>exact fun e=>by cases e
 | 5=>exact fun e=>by cases e
 | 6=>exact fun e=>by cases e
 | 7=>exact fun e=>by cases e
 | i+8=>exact fun e=>by cases e
def EvB (gx bt:Nat) (w V:World) (e:Ev) (r:List UInt8):Prop:=∃ vc vk vu vo vn vs,RS gx bt w V (evCells e.k e.t vc vk vu vo vn vs) r∧EvIn (bt+1) V vc vk vu vo vn vs e
def EGave (gx bt:Nat) (w:World) (e:Ending) (V:World):Prop:=e = .panicked eGaveUp∧BelS (fun j=>j ≠ gx∧j ≠ bt) w V ∧ ∃ k t vc vk vu vo vn vs,Blk V gx 31 (evCells k t vc vk vu vo vn vs)
def ReadE (p gx bt:Nat) (e:Ev) (s:List UInt8) (w:World) (en:Ending) (V:World):Prop:=match readP p e s with
 | some (e',s')=>en = .returned (.tuple #[])∧EvB gx bt w V e' s'
 | none=>EGave gx bt w en V
theorem EvB.more {gx bt:Nat} {w0 w V:World} {e:Ev} {r:List UInt8} (h:EvB gx bt w V e r) (hk:BelS (fun j=>j ≠ gx∧j ≠ bt) w0 w) (hl:bt<w0.heap.size):EvB gx bt w0 V e r:=by
 obtain ⟨vc,vk,vu,vo,vn,vs,h1,h2⟩:=h
 exact ⟨vc,vk,vu,vo,vn,vs,⟨hk.trans h1.keep,h1.box,h1.no,h1.tape,h1.lt,hl⟩,h2⟩
theorem EGave.more {gx bt:Nat} {w0 w V:World} {e:Ending} (h:EGave gx bt w e V) (hk:BelS (fun j=>j ≠ gx∧j ≠ bt) w0 w):EGave gx bt w0 e V:=⟨h.1,hk.trans h.2.1,h.2.2⟩
theorem EvB.tape {gx bt:Nat} {w V:World} {e:Ev} {r:List UInt8} (h:EvB gx bt w V e r):TapeAt V bt r∧gx<bt∧bt<V.heap.size:=by obtain ⟨vc,vk,vu,vo,vn,vs,h1,h2⟩:=h;exact ⟨h1.tape,h1.lt,h1.size⟩
theorem eread_table (gx bt:Nat) (e:Ev) (s:List UInt8) (hs:s.length≤1000000) (w:World) (h:EvB gx bt w w e s):Calls Tryz.prog 102 #[.pointer (some ⟨bt,0,none⟩),.pointer (some ⟨gx,0,none⟩)] w (ReadE 0 gx bt e s w):=by
 obtain ⟨vc,vk,vu,vo,vn,vs,h1,h2⟩:=h
 obtain ⟨Ac,cc,Ak,ck,Au,cu,Ao,co,An,cn,As,cs,rfl,rfl,rfl,rfl,rfl,rfl⟩:=h2.at_.opened
 have H1:=Lib.hid h1
 have H2:=Lib.hid h2
 have hr:readP 0 e s=match rdText s with
  | none=>none
  | some (x,m)=>some ({ e with t:=⟨x.toArray⟩ },s.drop m):=rfl
 unfold ReadE
 rw [hr]
 clear hr h2
 cases hx:rdText s with
 | none =>
   have HG:=Lib.hid (egotS_no bt s hs hx w h1.tape)
   clear hx h1
   go_enter Tryz.func102,Tryz.ntmps102
   go_wp2_with fail
   refine HG.out.mono ?_
   rintro e1 w1 ⟨rfl,hg1⟩
   go_wp2
   exact ⟨rfl,rfl,H1.out.keep.grown hg1 (fun k e hk=>by cases e;exact hk.2 rfl),_,_,_,_,_,_,_,_,H1.out.box.grown hg1 (fun e=>by have:=H1.out.lt;have:=Option.some.inj e;omega)⟩
 | some q =>
   obtain ⟨x,m⟩:=q
   have HG:=Lib.hid (egotS_yes bt s hs x m hx w h1.tape)
   unfold strV at HG
   clear hx h1
   dsimp only
   go_enter Tryz.func102,Tryz.ntmps102
   go_wp2_with fail
   refine HG.out.mono ?_
   rintro e1 w1 ⟨rfl,ht1,hg1⟩
   have H3:=Lib.hid (H1.out.taped hg1 ht1)
   have H4:=Lib.hid (H2.out.keep (above_tape hg1 (Nat.lt_succ_self _)))
   have x0:w1.cell? ⟨gx,1,none⟩=some (.string e.t):=H3.out.box.cell 1
   have x1:w1.frozen? ⟨gx,1,none⟩=false:=H3.out.box.frozen 1
   clear ht1 hg1
   go_wp2
   go_end0
   have h5:=H3.out.set 1 (.string ⟨x.toArray⟩) (fun c e=>by cases e)
   have h6:=H4.out.keep (above_set (gx:=gx) (n:=bt+1) (i:=1) (u:=.string ⟨x.toArray⟩) (by have:=H3.out.lt;omega))
   exact ⟨rfl,_,_,_,_,_,_,h5,h6.c,h6.ky,h6.u,h6.o,h6.n,h6.ns⟩
set_option maxRecDepth 100000 in
set_option maxHeartbeats 1000000 in
theorem eread_shape (gx bt:Nat) (e:Ev) (s:List UInt8) (hs:s.length≤1000000) (w:World) (h:EvB gx bt w w e s):Calls Tryz.prog 107 #[.pointer (some ⟨bt,0,none⟩),.pointer (some ⟨gx,0,none⟩)] w (ReadE 1 gx bt e s w):=by
 obtain ⟨vc,vk,vu,vo,vn,vs,h1,h2⟩:=h
 obtain ⟨Ac,cc,Ak,ck,Au,cu,Ao,co,An,cn,As,cs,rfl,rfl,rfl,rfl,rfl,rfl⟩:=h2.at_.opened
 have H1:=Lib.hid h1
 have H2:=Lib.hid h2
 have hr:readP 1 e s=match rdText s with
  | none=>none
  | some (x,m)=>match decS x with
    | none=>none
    | some (c,k,u)=>some ({ e with c:=c,ky:=k,u:=u },s.drop m):=rfl
 unfold ReadE
 rw [hr]
 clear hr h2
 cases hx:rdText s with
 | none =>
   have HG:=Lib.hid (egotS_no bt s hs hx w h1.tape)
   clear hx h1
   go_enter Tryz.func107,Tryz.ntmps107
   go_wp2_with fail
   refine HG.out.mono ?_
   rintro e1 w1 ⟨rfl,hg1⟩
   go_wp2
   exact ⟨rfl,rfl,H1.out.keep.grown hg1 (fun k e hk=>by cases e;exact hk.2 rfl),_,_,_,_,_,_,_,_,H1.out.box.grown hg1 (fun e=>by have:=H1.out.lt;have:=Option.some.inj e;omega)⟩
 | some q =>
   obtain ⟨x,m⟩:=q
   have HG:=Lib.hid (egotS_yes bt s hs x m hx w h1.tape)
   have hxl:x.length≤1000000:=by have:=(rdText_back hx).2.2.2;omega
   unfold strV at HG
   have HD:=Lib.hid (fun V=>cdDecodeSchema_any (.slice (some ⟨V.heap.size,0,none⟩) x.length (grownCap V x.length 0 5)) x hxl _ (conv_at x hxl V))
   have hcv:=fun V=>conv_bytes x V
   clear hx h1 hxl
   dsimp only
   cases hd:decS x with
   | none =>
     rw [hd] at HD
     try dsimp only at HD
     go_enter Tryz.func107,Tryz.ntmps107
     go_wp2_with fail
     refine HG.out.mono ?_
     rintro e1 w1 ⟨rfl,ht1,hg1⟩
     have H3:=Lib.hid (H1.out.taped hg1 ht1)
     have H4:=Lib.hid (H2.out.keep (above_tape hg1 (Nat.lt_succ_self _)))
     clear ht1 hg1
     go_wp2_with fail
     refine (HD.out w1).mono ?_
     have hby:=bytes_bel x w1
     have hbz:=hby.size
     have H5:=Lib.hid (H3.out.bel hby)
     have H6:=Lib.hid (H4.out.keep (above_bel (n:=bt+1) hby))
     clear hby
     rintro e1 w2 ⟨rfl,hb2⟩
     have H7:=Lib.hid (H5.out.bel hb2)
     clear hb2 HD hd
     go_wp2_with (go_at_call 39;refine (emust_no _).mono ?_;rintro e w' ⟨rfl,rfl⟩)
     have H8:=H7.out.bel ((Bel.refl w2).alloc (.cells #[.slice none 0 0,.slice none 0 0,.slice none 0 0] 27))
     exact ⟨rfl,rfl,H8.keep,_,_,_,_,_,_,_,_,H8.box⟩
   | some q =>
     obtain ⟨c,k,u⟩:=q
     rw [hd] at HD
     dsimp only
     go_enter Tryz.func107,Tryz.ntmps107
     go_wp2_with fail
     refine HG.out.mono ?_
     rintro e1 w1 ⟨rfl,ht1,hg1⟩
     have H3:=Lib.hid (H1.out.taped hg1 ht1)
     have H4:=Lib.hid (H2.out.keep (above_tape hg1 (Nat.lt_succ_self _)))
     clear ht1 hg1
     go_wp2_with fail
     refine (HD.out w1).mono ?_
     have hby:=bytes_bel x w1
     have hbz:=hby.size
     have H5:=Lib.hid (H3.out.bel hby)
     have H6:=Lib.hid (H4.out.keep (above_bel (n:=bt+1) hby))
     clear hby
     rintro e1 w2 ⟨vc,vk,vu,rfl,hc,hk,hu,hb2⟩
     obtain ⟨A7,c7,rfl,-⟩:=id hc.at_
     obtain ⟨A8,c8,rfl,-⟩:=id hk.at_
     obtain ⟨A9,c9,rfl,-⟩:=id hu.at_
     have H7:=Lib.hid (H5.out.bel hb2)
     have H8:=Lib.hid (H6.out.keep (above_bel (n:=bt+1) hb2))
     have hbz1:bt+1≤(Lib.bytesWorld w1 5 ⟨x.toArray⟩).heap.size:=by have:=H3.out.size;omega
     have H9:=Lib.hid (And.intro (hc.less hbz1) (And.intro (hk.less hbz1) (hu.less hbz1)))
     obtain ⟨W3,hW3⟩ : ∃ W,W=w2.alloc (.cells #[.slice A7 c.length c7,.slice A8 k.length c8,.slice A9 u.length c9] 27):=⟨_,rfl⟩
     have hal:Bel w2 W3:=by rw [hW3];exact (Bel.refl w2).alloc _
     have H10:=Lib.hid (H7.out.bel hal)
     have HEV:Hid (EvIn (bt+1) W3 (.slice A7 c.length c7) (.slice A8 k.length c8) (.slice A9 u.length c9) (.slice Ao e.o.length co) (.slice An e.n.length cn) (.slice As e.ns.length cs) { e with c:=c,ky:=k,u:=u }) :=
      Lib.hid (EvIn.keep (w:=w2) ⟨H9.out.1,H9.out.2.1,H9.out.2.2,H8.out.o,H8.out.n,H8.out.ns⟩ (above_bel hal))
     have hgl:gx<w2.heap.size:=H7.out.box.lt
     have s0:W3.cell? ⟨w2.heap.size,0,none⟩=some (.slice A7 c.length c7):=by rw [hW3];exact (Blk.new w2 _ _).cell 0
     have s1:W3.cell? ⟨w2.heap.size,1,none⟩=some (.slice A8 k.length c8):=by rw [hW3];exact (Blk.new w2 _ _).cell 1
     have s2:W3.cell? ⟨w2.heap.size,2,none⟩=some (.slice A9 u.length c9):=by rw [hW3];exact (Blk.new w2 _ _).cell 2
     have x2:W3.cell? ⟨gx,2,none⟩=some (.slice Ac e.c.length cc):=H10.out.box.cell 2
     have x3:W3.cell? ⟨gx,3,none⟩=some (.slice Ak e.ky.length ck):=H10.out.box.cell 3
     have x4:W3.cell? ⟨gx,4,none⟩=some (.slice Au e.u.length cu):=H10.out.box.cell 4
     have y2:W3.frozen? ⟨gx,2,none⟩=false:=H10.out.box.frozen 2
     have y3:W3.frozen? ⟨gx,3,none⟩=false:=H10.out.box.frozen 3
     have y4:W3.frozen? ⟨gx,4,none⟩=false:=H10.out.box.frozen 4
     have HW3:=Lib.hid hW3
     clear hc hk hu hb2 HD hd hal H8 H7 H9 hcv hW3
     go_wp2_with (go_at_call 39;rw [← HW3.out];refine (emust_yes _).mono ?_;rintro e w' ⟨rfl,rfl⟩)
     go_end0
     have h5:=((H10.out.set 2 (.slice A7 c.length c7) (fun c e=>by cases e)).set 3 (.slice A8 k.length c8) (fun c e=>by cases e)).set 4 (.slice A9 u.length c9) (fun c e=>by cases e)
     exact ⟨rfl,_,_,_,_,_,_,h5,((HEV.out.keep (above_set (gx:=gx) (n:=bt+1) (by have:=H3.out.lt;omega))).keep (above_set (gx:=gx) (n:=bt+1) (by have:=H3.out.lt;omega))).keep (above_set (gx:=gx) (n:=bt+1) (by have:=H3.out.lt;omega))⟩
set_option maxRecDepth 100000 in
set_option maxHeartbeats 1000000 in
theorem eread_old (bx gx bt:Nat) (e:Ev) (s:List UInt8) (hs:s.length≤1000000) (w:World) (hx0:Blk w bx 115 #[fnV 59]) (hbx:bx ≠ gx∧bx ≠ bt) (h:EvB gx bt w w e s):Calls Tryz.prog 97 #[.pointer (some ⟨bt,0,none⟩),.pointer (some ⟨gx,0,none⟩),.pointer (some ⟨bx,0,none⟩)] w (ReadE 3 gx bt e s w):=by
 obtain ⟨vc,vk,vu,vo,vn,vs,h1,h2⟩:=h
 obtain ⟨Ac,cc,Ak,ck,Au,cu,Ao,co,An,cn,As,cs,rfl,rfl,rfl,rfl,rfl,rfl⟩:=h2.at_.opened
 have H1:=Lib.hid h1
 have H2:=Lib.hid h2
 have HX0:=Lib.hid hx0
 have hr:readP 3 e s=match rdText s with
  | none=>none
  | some (x,m)=>match rdKeys x with
    | none=>none
    | some l=>some ({ e with o:=l },s.drop m):=rfl
 unfold ReadE
 rw [hr]
 clear hr h2 hx0
 cases hx:rdText s with
 | none =>
   have HG:=Lib.hid (egotS_no bt s hs hx w h1.tape)
   clear hx h1
   go_enter Tryz.func97,Tryz.ntmps97
   go_wp2_with fail
   refine HG.out.mono ?_
   rintro e1 w1 ⟨rfl,hg1⟩
   go_wp2
   exact ⟨rfl,rfl,H1.out.keep.grown hg1 (fun k e hk=>by cases e;exact hk.2 rfl),_,_,_,_,_,_,_,_,H1.out.box.grown hg1 (fun e=>by have:=H1.out.lt;have:=Option.some.inj e;omega)⟩
 | some q =>
   obtain ⟨x,m⟩:=q
   have HG:=Lib.hid (egotS_yes bt s hs x m hx w h1.tape)
   have hxl:x.length≤1000000:=by have:=(rdText_back hx).2.2.2;omega
   have HD:=Lib.hid (fun V=>kyDecode_any x hxl V)
   unfold strV at HG HD
   unfold krDec at HD
   clear hx h1 hxl
   dsimp only
   cases hd:rdKeys x with
   | none =>
     rw [hd] at HD
     dsimp only at HD ⊢
     go_enter Tryz.func97,Tryz.ntmps97
     go_wp2_with fail
     refine HG.out.mono ?_
     rintro e1 w1 ⟨rfl,ht1,hg1⟩
     have H3:=Lib.hid (H1.out.taped hg1 ht1)
     have H4:=Lib.hid (H2.out.keep (above_tape hg1 (Nat.lt_succ_self _)))
     have HX1:=Lib.hid (HX0.out.grown hg1 (fun e=>hbx.2 (Option.some.inj e)))
     clear ht1 hg1
     go_wp2_with fail
     refine (HD.out w1).mono ?_
     rintro e1 w2 ⟨v,rfl,hv,hb2⟩
     obtain ⟨A7,c7,rfl,-⟩:=id hv.at_
     have H7:=Lib.hid (H3.out.bel hb2)
     clear hb2 HD hd hv
     go_wp2_with (go_at_call 39;refine (emust_no _).mono ?_;rintro e w' ⟨rfl,rfl⟩)
     exact ⟨rfl,rfl,H7.out.keep,_,_,_,_,_,_,_,_,H7.out.box⟩
   | some l =>
     rw [hd] at HD
     dsimp only at HD ⊢
     go_enter Tryz.func97,Tryz.ntmps97
     go_wp2_with fail
     refine HG.out.mono ?_
     rintro e1 w1 ⟨rfl,ht1,hg1⟩
     have H3:=Lib.hid (H1.out.taped hg1 ht1)
     have H4:=Lib.hid (H2.out.keep (above_tape hg1 (Nat.lt_succ_self _)))
     have HX1:=Lib.hid (HX0.out.grown hg1 (fun e=>hbx.2 (Option.some.inj e)))
     clear ht1 hg1
     go_wp2_with fail
     refine (HD.out w1).mono ?_
     rintro e1 w2 ⟨v,rfl,hv,hb2⟩
     obtain ⟨A7,c7,rfl,-⟩:=id hv.at_
     have H7:=Lib.hid (H3.out.bel hb2)
     have H8:=Lib.hid (H4.out.keep (above_bel (n:=bt+1) hb2))
     have H9:=Lib.hid (hv.less H3.out.size)
     have HEV:Hid (EvIn (bt+1) w2 (.slice Ac e.c.length cc) (.slice Ak e.ky.length ck) (.slice Au e.u.length cu) (.slice A7 l.length c7) (.slice An e.n.length cn) (.slice As e.ns.length cs) { e with o:=l }) :=
      Lib.hid ⟨H8.out.c,H8.out.ky,H8.out.u,H9.out,H8.out.n,H8.out.ns⟩
     have x5:w2.cell? ⟨gx,5,none⟩=some (.slice Ao e.o.length co):=H7.out.box.cell 5
     have y5:w2.frozen? ⟨gx,5,none⟩=false:=H7.out.box.frozen 5
     have z5:w2.cell? ⟨bx,0,none⟩=some (.func (.func 59) #[] #[]):=(HX1.out.below hb2 HX1.out.lt).cell 0
     have HAT:=Lib.hid (fun B V=>eat_old B V)
     clear hb2 HD hd hv
     go_wp2_with (first | (go_at_call 39;refine (emust_yes _).mono ?_;rintro e w' ⟨rfl,rfl⟩) | (go_at_call 59;refine (HAT.out _ _).mono ?_;rintro e w' ⟨rfl,rfl⟩))
     go_end0
     have h5:=H7.out.set 5 (.slice A7 l.length c7) (fun c e=>by cases e)
     exact ⟨rfl,_,_,_,_,_,_,h5,HEV.out.keep (above_set (gx:=gx) (n:=bt+1) (by have:=H3.out.lt;omega))⟩
set_option maxRecDepth 100000 in
set_option maxHeartbeats 1000000 in
theorem eread_new (bx gx bt:Nat) (e:Ev) (s:List UInt8) (hs:s.length≤1000000) (w:World) (hx0:Blk w bx 115 #[fnV 60]) (hbx:bx ≠ gx∧bx ≠ bt) (h:EvB gx bt w w e s):Calls Tryz.prog 97 #[.pointer (some ⟨bt,0,none⟩),.pointer (some ⟨gx,0,none⟩),.pointer (some ⟨bx,0,none⟩)] w (ReadE 4 gx bt e s w):=by
 obtain ⟨vc,vk,vu,vo,vn,vs,h1,h2⟩:=h
 obtain ⟨Ac,cc,Ak,ck,Au,cu,Ao,co,An,cn,As,cs,rfl,rfl,rfl,rfl,rfl,rfl⟩:=h2.at_.opened
 have H1:=Lib.hid h1
 have H2:=Lib.hid h2
 have HX0:=Lib.hid hx0
 have hr:readP 4 e s=match rdText s with
  | none=>none
  | some (x,m)=>match rdKeys x with
    | none=>none
    | some l=>some ({ e with n:=l },s.drop m):=rfl
 unfold ReadE
 rw [hr]
 clear hr h2 hx0
 cases hx:rdText s with
 | none =>
   have HG:=Lib.hid (egotS_no bt s hs hx w h1.tape)
   clear hx h1
   go_enter Tryz.func97,Tryz.ntmps97
   go_wp2_with fail
   refine HG.out.mono ?_
   rintro e1 w1 ⟨rfl,hg1⟩
   go_wp2
   exact ⟨rfl,rfl,H1.out.keep.grown hg1 (fun k e hk=>by cases e;exact hk.2 rfl),_,_,_,_,_,_,_,_,H1.out.box.grown hg1 (fun e=>by have:=H1.out.lt;have:=Option.some.inj e;omega)⟩
 | some q =>
   obtain ⟨x,m⟩:=q
   have HG:=Lib.hid (egotS_yes bt s hs x m hx w h1.tape)
   have hxl:x.length≤1000000:=by have:=(rdText_back hx).2.2.2;omega
   have HD:=Lib.hid (fun V=>kyDecode_any x hxl V)
   unfold strV at HG HD
   unfold krDec at HD
   clear hx h1 hxl
   dsimp only
   cases hd:rdKeys x with
   | none =>
     rw [hd] at HD
     dsimp only at HD ⊢
     go_enter Tryz.func97,Tryz.ntmps97
     go_wp2_with fail
     refine HG.out.mono ?_
     rintro e1 w1 ⟨rfl,ht1,hg1⟩
     have H3:=Lib.hid (H1.out.taped hg1 ht1)
     have H4:=Lib.hid (H2.out.keep (above_tape hg1 (Nat.lt_succ_self _)))
     have HX1:=Lib.hid (HX0.out.grown hg1 (fun e=>hbx.2 (Option.some.inj e)))
     clear ht1 hg1
     go_wp2_with fail
     refine (HD.out w1).mono ?_
     rintro e1 w2 ⟨v,rfl,hv,hb2⟩
     obtain ⟨A7,c7,rfl,-⟩:=id hv.at_
     have H7:=Lib.hid (H3.out.bel hb2)
     clear hb2 HD hd hv
     go_wp2_with (go_at_call 39;refine (emust_no _).mono ?_;rintro e w' ⟨rfl,rfl⟩)
     exact ⟨rfl,rfl,H7.out.keep,_,_,_,_,_,_,_,_,H7.out.box⟩
   | some l =>
     rw [hd] at HD
     dsimp only at HD ⊢
     go_enter Tryz.func97,Tryz.ntmps97
     go_wp2_with fail
     refine HG.out.mono ?_
     rintro e1 w1 ⟨rfl,ht1,hg1⟩
     have H3:=Lib.hid (H1.out.taped hg1 ht1)
     have H4:=Lib.hid (H2.out.keep (above_tape hg1 (Nat.lt_succ_self _)))
     have HX1:=Lib.hid (HX0.out.grown hg1 (fun e=>hbx.2 (Option.some.inj e)))
     clear ht1 hg1
     go_wp2_with fail
     refine (HD.out w1).mono ?_
     rintro e1 w2 ⟨v,rfl,hv,hb2⟩
     obtain ⟨A7,c7,rfl,-⟩:=id hv.at_
     have H7:=Lib.hid (H3.out.bel hb2)
     have H8:=Lib.hid (H4.out.keep (above_bel (n:=bt+1) hb2))
     have H9:=Lib.hid (hv.less H3.out.size)
     have HEV:Hid (EvIn (bt+1) w2 (.slice Ac e.c.length cc) (.slice Ak e.ky.length ck) (.slice Au e.u.length cu) (.slice Ao e.o.length co) (.slice A7 l.length c7) (.slice As e.ns.length cs) { e with n:=l }) :=
      Lib.hid ⟨H8.out.c,H8.out.ky,H8.out.u,H8.out.o,H9.out,H8.out.ns⟩
     have x5:w2.cell? ⟨gx,6,none⟩=some (.slice An e.n.length cn):=H7.out.box.cell 6
     have y5:w2.frozen? ⟨gx,6,none⟩=false:=H7.out.box.frozen 6
     have z5:w2.cell? ⟨bx,0,none⟩=some (.func (.func 60) #[] #[]):=(HX1.out.below hb2 HX1.out.lt).cell 0
     have HAT:=Lib.hid (fun B V=>eat_new B V)
     clear hb2 HD hd hv
     go_wp2_with (first | (go_at_call 39;refine (emust_yes _).mono ?_;rintro e w' ⟨rfl,rfl⟩) | (go_at_call 60;refine (HAT.out _ _).mono ?_;rintro e w' ⟨rfl,rfl⟩))
     go_end0
     have h5:=H7.out.set 6 (.slice A7 l.length c7) (fun c e=>by cases e)
     exact ⟨rfl,_,_,_,_,_,_,h5,HEV.out.keep (above_set (gx:=gx) (n:=bt+1) (by have:=H3.out.lt;omega))⟩
end
end Go.Proofs.YtnajjhgbombboaaGreatDoor
