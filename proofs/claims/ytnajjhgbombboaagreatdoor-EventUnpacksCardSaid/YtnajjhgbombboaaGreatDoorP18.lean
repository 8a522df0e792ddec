/-
  Texts behind the statement: part 18.
-/
import Derived.Test.YtnajjhgbombboaaGreatDoorP16
import Derived.Test.YtnajjhgbombboaaGreatDoorP17
set_option linter.unusedVariables false
set_option linter.unusedSimpArgs false
namespace Go.Proofs.YtnajjhgbombboaaGreatDoor
section
open Go.RowKit Go.Shelf Go.Lib
attribute [local go_sem] Oper.semAt_some
theorem own_set {V:World} {b:Nat} {T:TypeId} {s:Nat} {v:Value} {n:Nat} {xs:List Value} (h:V.ownsRow b T s v n xs) {p:Addr} (hp : ∀ j,v.ownBlock=some j→j ≠ p.block) (u:Value):(V.setCell p u).ownsRow b T s v n xs:=by
 refine ⟨h.1,?_⟩
 rcases h.2 with h2 | ⟨g,cap,cur,hv,hgb,hh,r⟩
 ·exact .inl h2
 ·exact .inr ⟨g,cap,cur,hv,hgb,(Below.heap_setCell V p u g (hp g (by rw [hv];rfl))).trans hh,r⟩
theorem RowsI.set {n:Nat} {V:World} {us:List Value} {L:List (List Int)} (h:RowsI n V us L) {p:Addr} (hp:p.block<n) (u:Value):RowsI n (V.setCell p u) us L:=h.grown (grown_setCell V p u) hp
theorem RowsI.keep {m:Nat} {V V':World} {us:List Value} {L:List (List Int)} (h:RowsI m V us L) {b1 s1:Nat} {v1:Value} {n1:Nat} {xs1:List Value} (h1:V.ownsRow b1 24 s1 v1 n1 xs1) (hg:V.grownBy V' v1.ownBlock):RowsI m V' us L :=
 ⟨h.1,fun j u l hu hl=>by obtain ⟨b,h2,h3⟩:=h.2 j u l hu hl;exact ⟨b,h2,zown_keep h1 h3 (by decide) hg⟩⟩
theorem RowsI.snoc {m:Nat} {V:World} {us:List Value} {L:List (List Int)} (h:RowsI m V us L) {u:Value} {l:List Int} {b n:Nat} (_:(us ++ [u]).length=n) (ho:V.ownsRow b 3 1 u l.length (l.map fun x=>.int .i64 x)) (hb:m≤b):RowsI m V (us ++ [u]) (L ++ [l]):=by
 refine ⟨by rw [List.length_append,List.length_append,h.1];rfl,fun j u' l' hu hl=>?_⟩
 by_cases hj:j<us.length
 ·rw [List.getElem?_append_left hj] at hu
  rw [List.getElem?_append_left (by have:=h.1;omega)] at hl
  exact h.2 j u' l' hu hl
 ·rw [List.getElem?_append_right (by omega)] at hu
  rw [List.getElem?_append_right (by have:=h.1;omega)] at hl
  have h0:j - us.length=0:=by have:=(List.getElem?_eq_some_iff.1 hu).1;simp at this;omega
  have h0':j - L.length=0:=by have:=h.1;omega
  rw [h0] at hu
  rw [h0'] at hl
  simp at hu hl
  subst hu hl
  exact ⟨b,hb,ho⟩
theorem zreads_new (w:World) (u:Value) (T:TypeId):Reads (w.alloc (.cells #[u] T)) (w.alloc (.cells #[u] T)).heap.size 1 (some ⟨w.heap.size,0,none⟩) 1 [u]:=by
 have hb:=World.alloc_heap_new w (.cells #[u] T)
 refine ⟨rfl,fun _=>⟨_,rfl,by simp,fun j x hx=>?_⟩⟩
 have hj:j=0:=by have:=(List.getElem?_eq_some_iff.1 hx).1;simp at this;omega
 subst hj
 simp at hx
 subst hx
 rw [add_free]
 exact ((Blk.new w T #[u]).cell 0).trans rfl
theorem own_ge2 {V:World} {b1:Nat} {T1:TypeId} {s1:Nat} {v1:Value} {n1:Nat} {xs1:List Value} (h:V.ownsRow b1 T1 s1 v1 n1 xs1) (j:Nat) (e:v1.ownBlock=some j):b1≤j:=(h.lt j e).1
theorem decS_no {s:List UInt8} (h:pSch s=none):decS s=none:=by unfold decS;rw [h]
def ColsIn (n:Nat) (w:World) (v:Value) (l:List Col):Prop:=∃ b,n≤b∧w.ownsRow b 67 4 v l.length (crows l)
def IntsIn (n:Nat) (w:World) (v:Value) (l:List Int):Prop:=∃ b,n≤b∧w.ownsRow b 3 1 v l.length (l.map fun x=>.int .i64 x)
def ListsIn (n:Nat) (w:World) (v:Value) (L:List (List Int)):Prop:=∃ b m us,n≤b∧n≤m∧w.ownsRow b 24 1 v L.length us∧RowsI m w us L
theorem ColsIn.at_ {n:Nat} {w:World} {v:Value} {l:List Col} (h:ColsIn n w v l):ColsAt w v l:=by obtain ⟨b,-,h⟩:=h;exact cols_of_own h rfl
theorem IntsIn.at_ {n:Nat} {w:World} {v:Value} {l:List Int} (h:IntsIn n w v l):IntsAt w v l:=by obtain ⟨b,-,h⟩:=h;exact ints_of_own h
theorem ListsIn.at_ {n:Nat} {w:World} {v:Value} {L:List (List Int)} (h:ListsIn n w v L):ListsAt w v L:=by obtain ⟨b,m,us,-,-,h,h2⟩:=h;exact lists_of_own h h2
theorem cols_in {w:World} {b n m:Nat} {v:Value} {l:List Col} (h:w.ownsRow b 67 4 v n (crows l)) (hn:n=l.length) (hb:m≤b:=by omega):ColsIn m w v l:=by subst hn;exact ⟨b,hb,h⟩
theorem ints_in {w:World} {b n m:Nat} {v:Value} {l:List Int} (h:w.ownsRow b 3 1 v n (l.map fun x=>.int .i64 x)) (hb:m≤b:=by omega):IntsIn m w v l:=by
 have hn:n=l.length:=by have:=h.1;rw [Nat.mul_one] at this;rw [← this];simp
 subst hn
 exact ⟨b,hb,h⟩
theorem lists_in {w:World} {b n m m':Nat} {v:Value} {us:List Value} {L:List (List Int)} (h:w.ownsRow b 24 1 v n us) (hu:RowsI m w us L) (hb:m'≤b:=by omega) (hm:m'≤m:=by omega):ListsIn m' w v L:=by
 have hn:n=L.length:=by have:=h.1;rw [Nat.mul_one] at this;rw [← this,hu.1]
 subst hn
 exact ⟨b,m,us,hb,hm,h,hu⟩
def GivesSch (o:Option (List Col×List Int×List (List Int))) (w:World) (e:Ending) (w':World):Prop:=match o with
 | some (c,k,u)=>∃ vc vk vu,e = .returned (.tuple #[.agg #[vc,vk,vu],.int .i64 0])∧ColsIn w.heap.size w' vc c∧IntsIn w.heap.size w' vk k∧ListsIn w.heap.size w' vu u∧Bel w w'
 | none=>e = .returned (.tuple #[.agg #[.slice none 0 0,.slice none 0 0,.slice none 0 0],.int .i64 140])∧Bel w w'
set_option maxRecDepth 100000 in
set_option maxHeartbeats 16000000 in
theorem cdDecodeSchema_any (vb:Value) (s:List UInt8) (hs:s.length≤1000000) (w:World) (hb:BsAt w vb s):Calls Tryz.prog 108 #[vb] w (GivesSch (decS s) w):=by
 have hmf : ∀ (fn:Fn) (first cap:Array Value) (w:World),(Instr.makeFunc fn first cap).run Tryz.prog w = .ok (.func fn first cap) w:=fun _ _ _ _=>rfl
 obtain ⟨R,hR⟩ : ∃ R,R=decS s:=⟨_,rfl⟩
 rw [← hR]
 have HR:=Lib.hid hR
 have HBS:=Lib.hid hb
 obtain ⟨Ab,cb,rfl,hn,hmx,hrd⟩:=hb
 obtain ⟨i0,hi0,hz0,hz1,hz2⟩:=info_parts zinfoC
 obtain ⟨j0,hj0,hy0,hy1,hy2⟩:=info_parts zinfoIs
 have hp4:(0:Nat)<4:=by omega
 have hp1:(0:Nat)<1:=by omega
 clear hR
 go_enter_defers Tryz.func108,Tryz.ntmps108
 go_wp2_with fail
 obtain ⟨W0,hW0⟩ : ∃ V,V=((w.alloc (.cells #[.slice none 0 0,.slice none 0 0,.slice none 0 0] 27)).alloc (.cells #[.int .i64 0] 35)).alloc (.cells #[.slice Ab s.length cb] 195):=⟨_,rfl⟩
 rw [← hW0]
 have hb0:Bel w W0:=by rw [hW0];exact (((Bel.refl w).alloc _).alloc _).alloc _
 have ht0:TapeAt W0 (w.heap.size+2) s:=⟨Ab,cb,by rw [hW0];go_simp,by rw [hW0];go_simp,hn,hmx,(hrd.keep fun p hp=>hb0.cell hp).more (by omega)⟩
 have D0:Hid (DSt w (.slice none 0 0) (.slice none 0 0) (.slice none 0 0) s W0):=⟨⟨hb0,by rw [hW0];exact ((Blk.new w _ _).alloc _).alloc _,by
  rw [hW0]
  have:=(Blk.new (w.alloc (.cells #[.slice none 0 0,.slice none 0 0,.slice none 0 0] 27)) 35 #[.int .i64 0]).alloc (.cells #[.slice Ab s.length cb] 195)
  simpa using this⟩,ht0,⟨_,_,_,rfl⟩,⟨_,_,_,rfl⟩,⟨_,_,_,rfl⟩⟩
 clear hW0 hb0 ht0 hn hmx hrd
 have HN0:=Lib.hid (cdnumber_any (w.heap.size+2) s hs 9 (by omega) W0 D0.out.2.1)
 cases h0:pNum 9 s with
 | none =>
   rw [h0] at HN0
   obtain rfl:R=none:=by rw [HR.out];exact decS_no (by unfold pSch;rw [h0])
   refine HN0.out.mono ?_
   rintro e w1 ⟨rfl,hg1⟩
   have E1:=Lib.hid (D0.out.1.grown hg1 (fun j e=>by cases e;exact Nat.le_refl _))
   clear hg1 HN0
   try go_wp2
   refine leaves_cons (f:=132) (args:=#[.pointer (some ⟨w.heap.size+1,0,none⟩),.func (.func 133) #[] #[.pointer (some ⟨w.heap.size,0,none⟩)]]) (by simp) (by simp [go_sem]) ?_
   refine (schema_gave E1.out).mono ?_
   rintro e u' w'' ⟨rfl,rfl,⟨y0,y1,y2⟩,y3,hbf⟩
   simp [Leaves,settle,results,Tryz.results108,go_sem,y0,y1,y2,y3]
   exact ⟨rfl,hbf⟩
 | some q0 =>
   obtain ⟨n,r0⟩:=q0
   rw [h0] at HN0
   obtain ⟨hr0,hn9⟩:=pNum_len h0
   have HB0:Hid (rep pCol n r0=none→R=none):=fun h=>by rw [HR.out];exact decS_no (by unfold pSch;rw [h0];dsimp only;rw [h])
   have HP0:Hid (∀ cols r1,rep pCol n r0=some (cols,r1)→(pList r1=none→R=none) ∧ ∀ key r2,pList r1=some (key,r2)→(pNum 4 r2=none→R=none) ∧ ∀ u r3,pNum 4 r2=some (u,r3)→(rep pList u r3=none→R=none) ∧ ∀ uq r4,rep pList u r3=some (uq,r4)→R=if rightS cols key uq=true∧encSch cols key uq=s then some (cols,key,uq) else none):=by
    intro cols r1 h1
    refine ⟨fun h=>by rw [HR.out];exact decS_no (by unfold pSch;rw [h0];dsimp only;rw [h1];dsimp only;rw [h]),fun key r2 h2=>⟨fun h=>by rw [HR.out];exact decS_no (by unfold pSch;rw [h0];dsimp only;rw [h1];dsimp only;rw [h2];dsimp only;rw [h]),fun u r3 h3=>⟨fun h=>by rw [HR.out];exact decS_no (by unfold pSch;rw [h0];dsimp only;rw [h1];dsimp only;rw [h2];dsimp only;rw [h3];dsimp only;rw [h]),fun uq r4 h4=>?_⟩⟩⟩
    rw [HR.out]
    unfold decS pSch
    rw [h0];dsimp only;rw [h1];dsimp only;rw [h2];dsimp only;rw [h3];dsimp only;rw [h4]
   have hr0s:r0.length≤1000000:=by omega
   have hnI:(n:Int)<9:=by omega
   refine HN0.out.mono ?_
   rintro e w1 ⟨rfl,ht1,hg1⟩
   have D1:=Lib.hid (D0.out.tape hg1 ht1)
   clear hg1 ht1 HN0 h0 hr0 D0
   go_wp2
   go_loopw [14] (fun i wr=>∃ (k:Nat) (L:List Col) (r:List UInt8) (A:Option Addr) (c:Nat),k≤n∧i = .int .i64 k∧r.length≤1000000∧Hid (rep pCol k r0=some (L,r)∧L.length=k)∧Hid (DSt w (.slice A k c) (.slice none 0 0) (.slice none 0 0) r wr∧wr.ownsRow (w.heap.size+3) 67 4 (.slice A k c) k (crows L))) (fun i _=>n - (intOf i).toNat)
   case atStart=>exact ⟨0,[],r0,none,0,Nat.zero_le _,rfl,hr0s,⟨rfl,rfl⟩,D1.out,World.ownsRow_nil _ _ _ _⟩
   case round =>
    obtain ⟨k,L,r,A,c,hk,rfl,hrs,HL,HO⟩:=hrel
    by_cases hlt:k<n
    ·have hkI:(k:Int)<n:=by omega
     cases hx0:rdText r with
     | none =>
       obtain rfl:R=none:=HB0.out (rep_bad (rep_no HL.out.1 (by unfold pCol;rw [hx0])) (show k+1≤n by omega))
       have HG:=Lib.hid (gotS_no (w.heap.size+2) r hrs hx0 wr HO.out.1.2.1)
       have HD:=Lib.hid HO.out.1.1
       clear HL HO HP0 HB0
       go_wp2_with fail
       refine HG.out.mono ?_
       rintro e wp ⟨rfl,hgp⟩
       have EP:=Lib.hid (HD.out.grown hgp (fun j e=>by cases e;exact Nat.le_refl _))
       clear hgp HG
       try go_wp2
       refine leaves_cons (f:=132) (args:=#[.pointer (some ⟨w.heap.size+1,0,none⟩),.func (.func 133) #[] #[.pointer (some ⟨w.heap.size,0,none⟩)]]) (by simp) (by simp [go_sem]) ?_
       refine (schema_gave EP.out).mono ?_
       rintro e u' w'' ⟨rfl,rfl,⟨y0,y1,y2⟩,y3,hbf⟩
       simp [Leaves,settle,results,Tryz.results108,go_sem,y0,y1,y2,y3]
       exact ⟨rfl,hbf⟩
     | some qx =>
       obtain ⟨x,m⟩:=qx
       have HG:=gotS_yes (w.heap.size+2) r hrs x m hx0 wr HO.out.1.2.1
       try unfold strV at HG
       have HG:=Lib.hid HG
       go_wp2_with fail
       refine HG.out.mono ?_
       rintro e w1 ⟨rfl,ht1,hg1⟩
       have DA:=Lib.hid (HO.out.1.tape hg1 ht1)
       have OWA:=Lib.hid (ownsRow_grown HO.out.2 hg1 (by omega))
       have hown : ∀ j,(Value.slice A k c).ownBlock=some j→j<w1.heap.size:=fun j e=>(OWA.out.lt j e).2
       have hg3:w.heap.size+3≤w1.heap.size:=DA.out.lt
       have hgne:some w1.heap.size ≠ some (w.heap.size+2):=fun e=>by have:=Option.some.inj e;omega
       have hal:Bel w1 (w1.alloc (.cells #[.string ⟨x.toArray⟩,.int .i64 0,.int .i64 0,.bool false] 67)):=(Bel.refl w1).alloc _
       have D2:=Lib.hid (DA.out.bel hal)
       have OW2:=Lib.hid (ownsRow_bel OWA.out hal)
       have B2:Hid (Blk (w1.alloc (.cells #[.string ⟨x.toArray⟩,.int .i64 0,.int .i64 0,.bool false] 67)) w1.heap.size 67 #[.string ⟨x.toArray⟩,.int .i64 0,.int .i64 0,.bool false]):=Blk.new _ _ _
       have hdl:(r.drop m).length≤r.length:=by rw [List.length_drop];omega
       clear ht1 hg1 HG hal DA OWA HO
       have HN3:=Lib.hid (cdnumber_any (w.heap.size+2) (r.drop m) (by omega) 5 (by omega) (w1.alloc (.cells #[.string ⟨x.toArray⟩,.int .i64 0,.int .i64 0,.bool false] 67)) D2.out.2.1)
       cases h3:pNum 5 (r.drop m) with
       | none =>
         rw [h3] at HN3
         obtain rfl:R=none:=HB0.out (rep_bad (rep_no HL.out.1 (by unfold pCol;rw [hx0];dsimp only;rw [h3])) (show k+1≤n by omega))
         have HD:=Lib.hid D2.out.1
         clear HL HP0 HB0
         go_wp2_with fail
         refine HN3.out.mono ?_
         rintro e wp ⟨rfl,hgp⟩
         have EP:=Lib.hid (HD.out.grown hgp (fun j e=>by cases e;exact Nat.le_refl _))
         clear hgp HN3
         try go_wp2
         refine leaves_cons (f:=132) (args:=#[.pointer (some ⟨w.heap.size+1,0,none⟩),.func (.func 133) #[] #[.pointer (some ⟨w.heap.size,0,none⟩)]]) (by simp) (by simp [go_sem]) ?_
         refine (schema_gave EP.out).mono ?_
         rintro e u' w'' ⟨rfl,rfl,⟨y0,y1,y2⟩,y3,hbf⟩
         simp [Leaves,settle,results,Tryz.results108,go_sem,y0,y1,y2,y3]
         exact ⟨rfl,hbf⟩
       | some q3 =>
         obtain ⟨t,r1⟩:=q3
         rw [h3] at HN3
         obtain ⟨hl3,hv3⟩:=pNum_len h3
         go_wp2_with fail
         refine HN3.out.mono ?_
         rintro e w3 ⟨rfl,ht3,hg3⟩
         have D3:=Lib.hid (D2.out.tape hg3 ht3)
         have OW3:=Lib.hid (ownsRow_grown OW2.out hg3 (by omega))
         have B3:=Lib.hid (B2.out.grown hg3 hgne)
         clear ht3 hg3 HN3
         have D4:=Lib.hid (D3.out.far (p:=⟨w1.heap.size,1,none⟩) hg3 (.int .i64 (t:Int)))
         have OW4:=Lib.hid (own_set (p:=⟨w1.heap.size,1,none⟩) OW3.out (fun j e=>by have:=hown j e;dsimp only;omega) (.int .i64 (t:Int)))
         have B4:Hid (Blk (w3.setCell ⟨w1.heap.size,1,none⟩ (.int .i64 (t:Int))) w1.heap.size 67 #[.string ⟨x.toArray⟩,.int .i64 (t:Int),.int .i64 0,.bool false]):=B3.out.set_ 1 _
         have sc4:=B3.out.cell 1
         have sf4:=B3.out.frozen 1
         simp only [List.getElem?_toArray,List.getElem?_cons_succ,List.getElem?_cons_zero] at sc4
         clear D3 OW3 B3
         have HN5:=Lib.hid (cdnumber_any (w.heap.size+2) r1 (by omega) 201 (by omega) (w3.setCell ⟨w1.heap.size,1,none⟩ (.int .i64 (t:Int))) D4.out.2.1)
         cases h5:pNum 201 r1 with
         | none =>
           rw [h5] at HN5
           obtain rfl:R=none:=HB0.out (rep_bad (rep_no HL.out.1 (by unfold pCol;rw [hx0];dsimp only;rw [h3];dsimp only;rw [h5])) (show k+1≤n by omega))
           have HD:=Lib.hid D4.out.1
           clear HL HP0 HB0
           go_wp2_with fail
           refine HN5.out.mono ?_
           rintro e wp ⟨rfl,hgp⟩
           have EP:=Lib.hid (HD.out.grown hgp (fun j e=>by cases e;exact Nat.le_refl _))
           clear hgp HN5
           try go_wp2
           refine leaves_cons (f:=132) (args:=#[.pointer (some ⟨w.heap.size+1,0,none⟩),.func (.func 133) #[] #[.pointer (some ⟨w.heap.size,0,none⟩)]]) (by simp) (by simp [go_sem]) ?_
           refine (schema_gave EP.out).mono ?_
           rintro e u' w'' ⟨rfl,rfl,⟨y0,y1,y2⟩,y3,hbf⟩
           simp [Leaves,settle,results,Tryz.results108,go_sem,y0,y1,y2,y3]
           exact ⟨rfl,hbf⟩
         | some q5 =>
           obtain ⟨z,r2⟩:=q5
           rw [h5] at HN5
           obtain ⟨hl5,hv5⟩:=pNum_len h5
           go_wp2_with fail
           refine HN5.out.mono ?_
           rintro e w5 ⟨rfl,ht5,hg5⟩
           have D5:=Lib.hid (D4.out.tape hg5 ht5)
           have OW5:=Lib.hid (ownsRow_grown OW4.out hg5 (by omega))
           have B5:=Lib.hid (B4.out.grown hg5 hgne)
           clear ht5 hg5 HN5
           have D6:=Lib.hid (D5.out.far (p:=⟨w1.heap.size,2,none⟩) hg3 (.int .i64 (z:Int)))
           have OW6:=Lib.hid (own_set (p:=⟨w1.heap.size,2,none⟩) OW5.out (fun j e=>by have:=hown j e;dsimp only;omega) (.int .i64 (z:Int)))
           have B6:Hid (Blk (w5.setCell ⟨w1.heap.size,2,none⟩ (.int .i64 (z:Int))) w1.heap.size 67 #[.string ⟨x.toArray⟩,.int .i64 (t:Int),.int .i64 (z:Int),.bool false]):=B5.out.set_ 2 _
           have sc6:=B5.out.cell 2
           have sf6:=B5.out.frozen 2
           simp only [List.getElem?_toArray,List.getElem?_cons_succ,List.getElem?_cons_zero] at sc6
           clear D5 OW5 B5
           have HN7:=Lib.hid (cdnumber_any (w.heap.size+2) r2 (by omega) 2 (by omega) (w5.setCell ⟨w1.heap.size,2,none⟩ (.int .i64 (z:Int))) D6.out.2.1)
           cases h7:pNum 2 r2 with
           | none =>
             rw [h7] at HN7
             obtain rfl:R=none:=HB0.out (rep_bad (rep_no HL.out.1 (by unfold pCol;rw [hx0];dsimp only;rw [h3];dsimp only;rw [h5];dsimp only;rw [h7])) (show k+1≤n by omega))
             have HD:=Lib.hid D6.out.1
             clear HL HP0 HB0
             go_wp2_with fail
             refine HN7.out.mono ?_
             rintro e wp ⟨rfl,hgp⟩
             have EP:=Lib.hid (HD.out.grown hgp (fun j e=>by cases e;exact Nat.le_refl _))
             clear hgp HN7
             try go_wp2
             refine leaves_cons (f:=132) (args:=#[.pointer (some ⟨w.heap.size+1,0,none⟩),.func (.func 133) #[] #[.pointer (some ⟨w.heap.size,0,none⟩)]]) (by simp) (by simp [go_sem]) ?_
             refine (schema_gave EP.out).mono ?_
             rintro e u' w'' ⟨rfl,rfl,⟨y0,y1,y2⟩,y3,hbf⟩
             simp [Leaves,settle,results,Tryz.results108,go_sem,y0,y1,y2,y3]
             exact ⟨rfl,hbf⟩
           | some q7 =>
             obtain ⟨b,r3⟩:=q7
             rw [h7] at HN7
             obtain ⟨hl7,hv7⟩:=pNum_len h7
             go_wp2_with fail
             refine HN7.out.mono ?_
             rintro e w7 ⟨rfl,ht7,hg7⟩
             have D7:=Lib.hid (D6.out.tape hg7 ht7)
             have OW7:=Lib.hid (ownsRow_grown OW6.out hg7 (by omega))
             have B7:=Lib.hid (B6.out.grown hg7 hgne)
             clear ht7 hg7 HN7
             have hv2:b<2:=hv7
             obtain ⟨B,hB⟩ : ∃ B,B=decide (b=1):=⟨_,rfl⟩
             have hb1:((b:Int) == 1)=B:=by rw [hB];rcases (by omega:b=0 ∨ b=1) with rfl | rfl <;> rfl
             have hb2:(b == 1)=B:=by rw [hB];rcases (by omega:b=0 ∨ b=1) with rfl | rfl <;> rfl
             have hb3:decide ((b:Int)=1)=B:=by rw [hB];rcases (by omega:b=0 ∨ b=1) with rfl | rfl <;> rfl
             have HNX:Hid (rep pCol (k+1) r0=some (L ++ [⟨⟨x.toArray⟩,(t:Int),(z:Int),B⟩],r3)):=rep_yes HL.out.1 (by unfold pCol;rw [hx0];dsimp only;rw [h3];dsimp only;rw [h5];dsimp only;rw [h7,hB])
             have hr3:r3.length≤1000000:=by omega
             clear hB
             have D8:=Lib.hid (D7.out.far (p:=⟨w1.heap.size,3,none⟩) hg3 (.bool B))
             have OW8:=Lib.hid (own_set (p:=⟨w1.heap.size,3,none⟩) OW7.out (fun j e=>by have:=hown j e;dsimp only;omega) (.bool B))
             have B8:Hid (Blk (w7.setCell ⟨w1.heap.size,3,none⟩ (.bool B)) w1.heap.size 67 #[.string ⟨x.toArray⟩,.int .i64 (t:Int),.int .i64 (z:Int),.bool B]):=B7.out.set_ 3 _
             have sc8:=B7.out.cell 3
             have sf8:=B7.out.frozen 3
             simp only [List.getElem?_toArray,List.getElem?_cons_succ,List.getElem?_cons_zero] at sc8
             clear D7 OW7 B7
             have hal9:Bel (w7.setCell ⟨w1.heap.size,3,none⟩ (.bool B)) ((w7.setCell ⟨w1.heap.size,3,none⟩ (.bool B)).alloc (.cells #[.string ⟨x.toArray⟩,.int .i64 (t:Int),.int .i64 (z:Int),.bool B] 67)):=(Bel.refl _).alloc _
             have D9:=Lib.hid (D8.out.bel hal9)
             have OW9:=Lib.hid (ownsRow_bel OW8.out hal9)
             obtain ⟨b0,b1,b2,b3⟩:=cells4 B8.out
             obtain ⟨⟨z0,-,-⟩,-⟩:=D8.out.1.cells
             have HX:Hid (Reads ((w7.setCell ⟨w1.heap.size,3,none⟩ (.bool B)).alloc (.cells #[.string ⟨x.toArray⟩,.int .i64 (t:Int),.int .i64 (z:Int),.bool B] 67)) (w7.heap.size+1) 4 (some ⟨w7.heap.size,0,none⟩) 1 [.string ⟨x.toArray⟩,.int .i64 (t:Int),.int .i64 (z:Int),.bool B]):=by
              have:=reads4 (w7.setCell ⟨w1.heap.size,3,none⟩ (.bool B)) 67 (.string ⟨x.toArray⟩) (.int .i64 (t:Int)) (.int .i64 (z:Int)) (.bool B)
              show Reads _ _ _ _ _ _
              rw [show (w7.setCell ⟨w1.heap.size,3,none⟩ (.bool B)).heap.size=w7.heap.size by simp] at this
              exact this
             have hon : ∀ u ∈ ([.string ⟨x.toArray⟩,.int .i64 (t:Int),.int .i64 (z:Int),.bool B]:List Value),u.oneCell'=true:=fun u hu=>by
              simp at hu
              rcases hu with rfl | rfl | rfl | rfl <;> rfl
             have h63:k+1≤maxLen:=by unfold maxLen;omega
             have hby:(k+1) * 40≤140737488355328:=by omega
             have HBA:Hid (w.heap.size+3≤((w7.setCell ⟨w1.heap.size,3,none⟩ (.bool B)).alloc (.cells #[.string ⟨x.toArray⟩,.int .i64 (t:Int),.int .i64 (z:Int),.bool B] 67)).heap.size):=D9.out.lt
             have HVA:Hid (crows (L ++ [⟨⟨x.toArray⟩,(t:Int),(z:Int),B⟩])=crows L ++ [.string ⟨x.toArray⟩,.int .i64 (t:Int),.int .i64 (z:Int),.bool B]):=crows_append _ _
             clear hal9 B8 D8 OW8 hv3 hv5 hv7 hl3 hl5 hl7 hdl hx0 h3 h5 h7
             go_wp2_with (at_builtin;refine wpList_append_any _ rfl (.tmp 30) (.tmp 32) _ rfl (w.heap.size+3) 67 i0 _ 4 40 Tryz.underlying23 hi0 hz0 hz1 hz2 rfl hp4 (.slice A k c) k (crows L) (by rfl) OW9.out _ (some ⟨w7.heap.size,0,none⟩) 1 1 [.string ⟨x.toArray⟩,.int .i64 (t:Int),.int .i64 (z:Int),.bool B] (by rfl) HX.out hon h63 hby HBA.out ?_;intro v9 w9 hown9 hg9 hat9;obtain ⟨A9,c9,rfl⟩:=row_any hown9;have D10:=Lib.hid (D9.out.own hg9 (fun j e=>own_ge2 OW9.out j e));have OW10:=Lib.hid hown9;rw [← HVA.out] at OW10;obtain ⟨⟨y0,y1,y2⟩,⟨x0,x1,x2⟩,-⟩:=D10.out.1.cells;clear hown9 hg9 hat9)
             have D11:=Lib.hid (D10.out.set0 (u:=.slice A9 (k+1) c9) ⟨_,_,_,rfl⟩)
             have OW11:=Lib.hid (own_set (p:=⟨w.heap.size,0,none⟩) OW10.out (fun j e=>by have:=own_ge2 OW10.out j e;dsimp only;omega) (.slice A9 (k+1) c9))
             go_roundw
             case rel=>exact ⟨k+1,_,r3,A9,c9,by omega,by go_num,hr3,⟨HNX.out,by rw [List.length_append,HL.out.2];rfl⟩,D11.out,OW11.out⟩
             case measure=>simp [intOf];omega
    ·obtain rfl:k=n:=by omega
     have HP1:=Lib.hid (HP0.out L r HL.out.1)
     clear hlt hk HP0 HB0
     have HLN:=Lib.hid HL.out.2
     have HPL:=Lib.hid (cdplaces_any (w.heap.size+2) r hrs wr HO.out.1.2.1)
     cases hq:pList r with
     | none =>
       rw [hq] at HPL
       obtain rfl:R=none:=HP1.out.1 hq
       have HD:=Lib.hid HO.out.1.1
       clear HL HO HP1
       go_wp2_with fail
       refine HPL.out.mono ?_
       rintro e wp ⟨rfl,hgp⟩
       have EP:=Lib.hid (HD.out.grown hgp (fun j e=>by cases e;exact Nat.le_refl _))
       clear hgp HPL
       try go_wp2
       refine leaves_cons (f:=132) (args:=#[.pointer (some ⟨w.heap.size+1,0,none⟩),.func (.func 133) #[] #[.pointer (some ⟨w.heap.size,0,none⟩)]]) (by simp) (by simp [go_sem]) ?_
       refine (schema_gave EP.out).mono ?_
       rintro e u' w'' ⟨rfl,rfl,⟨y0,y1,y2⟩,y3,hbf⟩
       simp [Leaves,settle,results,Tryz.results108,go_sem,y0,y1,y2,y3]
       exact ⟨rfl,hbf⟩
     | some qk =>
       obtain ⟨key,r2⟩:=qk
       rw [hq] at HPL
       have HP2:=Lib.hid (HP1.out.2 key r2 hq)
       obtain ⟨hlr2,hk8⟩:=pList_len hq
       have hwr3:w.heap.size+3≤wr.heap.size:=HO.out.1.lt
       go_wp2_with fail
       refine HPL.out.mono ?_
       rintro e w3 ⟨Ak,ck,rfl,hok,ht3,hg3⟩
       have D3:=Lib.hid (HO.out.1.tape hg3 ht3)
       have OC3:=Lib.hid (ownsRow_grown HO.out.2 hg3 (by omega))
       obtain ⟨bk,hbk,hok⟩ : ∃ bk,w.heap.size+3≤bk∧w3.ownsRow bk 3 1 (.slice Ak key.length ck) key.length (key.map fun x=>.int .i64 x):=⟨_,hwr3,hok⟩
       have OK3:=Lib.hid hok
       obtain ⟨⟨z0,z1,z2⟩,⟨x0,x1,x2⟩,-⟩:=D3.out.1.cells
       have D4:=Lib.hid (D3.out.set1 (u:=.slice Ak key.length ck) ⟨_,_,_,rfl⟩)
       have OC4:=Lib.hid (own_set (p:=⟨w.heap.size,1,none⟩) OC3.out (fun j e=>by have:=own_ge2 OC3.out j e;dsimp only;omega) (.slice Ak key.length ck))
       have OK4:=Lib.hid (own_set (p:=⟨w.heap.size,1,none⟩) OK3.out (fun j e=>by have:=own_ge2 OK3.out j e;dsimp only;omega) (.slice Ak key.length ck))
       have HN5:=Lib.hid (cdnumber_any (w.heap.size+2) r2 (by omega) 4 (by omega) (w3.setCell ⟨w.heap.size,1,none⟩ (.slice Ak key.length ck)) D4.out.2.1)
       clear ht3 hg3 hok HPL HL HO HP1 D3 OC3 OK3 hq hwr3
       cases h5:pNum 4 r2 with
       | none =>
         rw [h5] at HN5
         obtain rfl:R=none:=HP2.out.1 h5
         clear HP2
         go_wp2_with fail
         refine HN5.out.mono ?_
         rintro e wp ⟨rfl,hgp⟩
         have EP:=Lib.hid (D4.out.1.grown hgp (fun j e=>by cases e;exact Nat.le_refl _))
         clear hgp HN5
         try go_wp2
         refine leaves_cons (f:=132) (args:=#[.pointer (some ⟨w.heap.size+1,0,none⟩),.func (.func 133) #[] #[.pointer (some ⟨w.heap.size,0,none⟩)]]) (by simp) (by simp [go_sem]) ?_
         refine (schema_gave EP.out).mono ?_
         rintro e u' w'' ⟨rfl,rfl,⟨y0,y1,y2⟩,y3,hbf⟩
         simp [Leaves,settle,results,Tryz.results108,go_sem,y0,y1,y2,y3]
         exact ⟨rfl,hbf⟩
       | some q5 =>
         obtain ⟨u,r3⟩:=q5
         rw [h5] at HN5
         have HP3:=Lib.hid (HP2.out.2 u r3 h5)
         obtain ⟨hlr3,hu4⟩:=pNum_len h5
         go_wp2_with fail
         refine HN5.out.mono ?_
         rintro e w5 ⟨rfl,ht5,hg5⟩
         have D5:=Lib.hid (D4.out.tape hg5 ht5)
         have OC5:=Lib.hid (ownsRow_grown OC4.out hg5 (by omega))
         have OK5:=Lib.hid (ownsRow_grown OK4.out hg5 (by omega))
         have hr3s:r3.length≤1000000:=by omega
         have huI:(u:Int)<4:=by omega
         clear ht5 hg5 HN5 HP2 D4 OC4 OK4 h5 z0 z1 z2 x0 x1 x2 hlr2 hlr3
         go_wp2
         go_loopw [41] (fun i wr=>∃ (j:Nat) (LU:List (List Int)) (us:List Value) (r':List UInt8) (A2:Option Addr) (c2:Nat),j≤u∧i = .int .i64 j∧r'.length≤1000000∧Hid (rep pList j r3=some (LU,r')∧LU.length=j)∧Hid (DSt w (.slice A k c) (.slice Ak key.length ck) (.slice A2 j c2) r' wr)∧Hid (wr.ownsRow (w.heap.size+3) 24 1 (.slice A2 j c2) j us∧RowsI (w.heap.size+3) wr us LU)∧Hid (wr.ownsRow (w.heap.size+3) 67 4 (.slice A k c) k (crows L))∧Hid (wr.ownsRow bk 3 1 (.slice Ak key.length ck) key.length (key.map fun x=>.int .i64 x))) (fun i _=>u - (intOf i).toNat)
         case atStart=>exact ⟨0,[],[],r3,none,0,Nat.zero_le _,rfl,hr3s,⟨rfl,rfl⟩,D5.out,⟨World.ownsRow_nil _ _ _ _,rfl,fun j u l h=>by simp at h⟩,OC5.out,OK5.out⟩
         case round =>
          obtain ⟨j,LU,us,r',A2,c2,hj,rfl,hrs',HLU,D,OU,OC,OK⟩:=hrel
          obtain ⟨⟨z0,z1,z2⟩,⟨x0,x1,x2⟩,-⟩:=D.out.1.cells
          by_cases hlt:j<u
          ·have hjI:(j:Int)<u:=by omega
           have HPJ:=Lib.hid (cdplaces_any (w.heap.size+2) r' hrs' wr.drew (D.out.bel (Bel.refl wr).drew).2.1)
           cases hq2:pList r' with
           | none =>
             rw [hq2] at HPJ
             obtain rfl:R=none:=HP3.out.1 (rep_bad (rep_no HLU.out.1 hq2) (show j+1≤u by omega))
             have HD:=Lib.hid (D.out.bel (Bel.refl wr).drew).1
             clear HLU HP3 OU OC OK D
             go_wp2_with fail
             refine wp_region_held_drew (S:=(fun _:World=>True)) (by kernel_rfl) ?_ (fun hHr1_0=>?_)
             ·(try dsimp only);(first | done | trivial)
             refine wpAnyH_ready (rs:=[0,2]) (by kernel_rfl) (by simp) ?_
             refine AllReadyH.cons (o:=_) rfl (fun K hK=>?_) (AllReadyH.cons (o:=_) rfl (fun K hK=>?_) (AllReadyH.nil))
             ·go_simp
              refine hK.out _ _ ?_ (fun hHr1_1=>?_)
              ·(try dsimp only);(first | done | trivial)
              clear hK K hHr1_0
              try simp only [tkp0,tkp1,tkp2,tkp3,tkp4,tkp5,tkp6,tkp7]
              refine wpAnyH_ready (rs:=[1,2]) (by kernel_rfl) (by simp) ?_
              refine AllReadyH.cons (o:=_) rfl (fun K hK=>?_) (AllReadyH.cons (o:=_) rfl (fun K hK=>?_) (AllReadyH.nil))
              ·go_simp
               refine hK.out _ _ ?_ (fun hHr1_2=>?_)
               ·(try dsimp only);(first | done | trivial)
               clear hK K hHr1_1
               try simp only [tkp0,tkp1,tkp2,tkp3,tkp4,tkp5,tkp6,tkp7]
               refine rd1 2 (fun K hK=>?_)
               go_simp
               refine hK.out _ _ ?_ (fun hHr1_3=>?_)
               ·(try dsimp only);(first | done | trivial)
               clear hK K hHr1_2
               try simp only [tkp0,tkp1,tkp2,tkp3,tkp4,tkp5,tkp6,tkp7]
               refine rd1 3 (fun K hK=>?_)
               go_simp
               (go_at_call 136;refine HPJ.out.mono ?_;rintro e wp ⟨rfl,hgp⟩;have EP:=Lib.hid (HD.out.grown hgp (fun j e=>by cases e;exact Nat.le_refl _));clear hgp;try go_wp2;refine leaves_cons (f:=132) (args:=#[.pointer (some ⟨w.heap.size+1,0,none⟩),.func (.func 133) #[] #[.pointer (some ⟨w.heap.size,0,none⟩)]]) (by simp) (by simp [go_sem]) ?_;refine (schema_gave EP.out).mono ?_;rintro e u' w'' ⟨rfl,rfl,⟨y0,y1,y2⟩,y3,hbf⟩;simp [Leaves,settle,results,Tryz.results108,go_sem,y0,y1,y2,y3];exact ⟨rfl,hbf⟩)
              ·go_simp
               refine hK.out _ _ ?_ (fun hHr1_2=>?_)
               ·(try dsimp only);(first | done | trivial)
               clear hK K hHr1_1
               try simp only [tkp0,tkp1,tkp2,tkp3,tkp4,tkp5,tkp6,tkp7]
               refine wpAnyH_ready (rs:=[1,3]) (by kernel_rfl) (by simp) ?_
               refine AllReadyH.cons (o:=_) rfl (fun K hK=>?_) (AllReadyH.cons (o:=_) rfl (fun K hK=>?_) (AllReadyH.nil))
               ·go_simp
                refine hK.out _ _ ?_ (fun hHr1_3=>?_)
                ·(try dsimp only);(first | done | trivial)
                clear hK K hHr1_2
                try simp only [tkp0,tkp1,tkp2,tkp3,tkp4,tkp5,tkp6,tkp7]
                refine rd1 3 (fun K hK=>?_)
                go_simp
                (go_at_call 136;refine HPJ.out.mono ?_;rintro e wp ⟨rfl,hgp⟩;have EP:=Lib.hid (HD.out.grown hgp (fun j e=>by cases e;exact Nat.le_refl _));clear hgp;try go_wp2;refine leaves_cons (f:=132) (args:=#[.pointer (some ⟨w.heap.size+1,0,none⟩),.func (.func 133) #[] #[.pointer (some ⟨w.heap.size,0,none⟩)]]) (by simp) (by simp [go_sem]) ?_;refine (schema_gave EP.out).mono ?_;rintro e u' w'' ⟨rfl,rfl,⟨y0,y1,y2⟩,y3,hbf⟩;simp [Leaves,settle,results,Tryz.results108,go_sem,y0,y1,y2,y3];exact ⟨rfl,hbf⟩)
               ·go_simp
                (go_at_call 136;refine HPJ.out.mono ?_;rintro e wp ⟨rfl,hgp⟩;have EP:=Lib.hid (HD.out.grown hgp (fun j e=>by cases e;exact Nat.le_refl _));clear hgp;try go_wp2;refine leaves_cons (f:=132) (args:=#[.pointer (some ⟨w.heap.size+1,0,none⟩),.func (.func 133) #[] #[.pointer (some ⟨w.heap.size,0,none⟩)]]) (by simp) (by simp [go_sem]) ?_;refine (schema_gave EP.out).mono ?_;rintro e u' w'' ⟨rfl,rfl,⟨y0,y1,y2⟩,y3,hbf⟩;simp [Leaves,settle,results,Tryz.results108,go_sem,y0,y1,y2,y3];exact ⟨rfl,hbf⟩)
             ·go_simp
              refine hK.out _ _ ?_ (fun hHr1_1=>?_)
              ·(try dsimp only);(first | done | trivial)
              clear hK K hHr1_0
              try simp only [tkp0,tkp1,tkp2,tkp3,tkp4,tkp5,tkp6,tkp7]
              refine wpAnyH_ready (rs:=[0,3]) (by kernel_rfl) (by simp) ?_
              refine AllReadyH.cons (o:=_) rfl (fun K hK=>?_) (AllReadyH.cons (o:=_) rfl (fun K hK=>?_) (AllReadyH.nil))
              ·go_simp
               refine hK.out _ _ ?_ (fun hHr1_2=>?_)
               ·(try dsimp only);(first | done | trivial)
               clear hK K hHr1_1
               try simp only [tkp0,tkp1,tkp2,tkp3,tkp4,tkp5,tkp6,tkp7]
               refine wpAnyH_ready (rs:=[1,3]) (by kernel_rfl) (by simp) ?_
               refine AllReadyH.cons (o:=_) rfl (fun K hK=>?_) (AllReadyH.cons (o:=_) rfl (fun K hK=>?_) (AllReadyH.nil))
               ·go_simp
                refine hK.out _ _ ?_ (fun hHr1_3=>?_)
                ·(try dsimp only);(first | done | trivial)
                clear hK K hHr1_2
                try simp only [tkp0,tkp1,tkp2,tkp3,tkp4,tkp5,tkp6,tkp7]
                refine rd1 3 (fun K hK=>?_)
                go_simp
                (go_at_call 136;refine HPJ.out.mono ?_;rintro e wp ⟨rfl,hgp⟩;have EP:=Lib.hid (HD.out.grown hgp (fun j e=>by cases e;exact Nat.le_refl _));clear hgp;try go_wp2;refine leaves_cons (f:=132) (args:=#[.pointer (some ⟨w.heap.size+1,0,none⟩),.func (.func 133) #[] #[.pointer (some ⟨w.heap.size,0,none⟩)]]) (by simp) (by simp [go_sem]) ?_;refine (schema_gave EP.out).mono ?_;rintro e u' w'' ⟨rfl,rfl,⟨y0,y1,y2⟩,y3,hbf⟩;simp [Leaves,settle,results,Tryz.results108,go_sem,y0,y1,y2,y3];exact ⟨rfl,hbf⟩)
               ·go_simp
                (go_at_call 136;refine HPJ.out.mono ?_;rintro e wp ⟨rfl,hgp⟩;have EP:=Lib.hid (HD.out.grown hgp (fun j e=>by cases e;exact Nat.le_refl _));clear hgp;try go_wp2;refine leaves_cons (f:=132) (args:=#[.pointer (some ⟨w.heap.size+1,0,none⟩),.func (.func 133) #[] #[.pointer (some ⟨w.heap.size,0,none⟩)]]) (by simp) (by simp [go_sem]) ?_;refine (schema_gave EP.out).mono ?_;rintro e u' w'' ⟨rfl,rfl,⟨y0,y1,y2⟩,y3,hbf⟩;simp [Leaves,settle,results,Tryz.results108,go_sem,y0,y1,y2,y3];exact ⟨rfl,hbf⟩)
              ·go_simp
               (go_at_call 136;refine HPJ.out.mono ?_;rintro e wp ⟨rfl,hgp⟩;have EP:=Lib.hid (HD.out.grown hgp (fun j e=>by cases e;exact Nat.le_refl _));clear hgp;try go_wp2;refine leaves_cons (f:=132) (args:=#[.pointer (some ⟨w.heap.size+1,0,none⟩),.func (.func 133) #[] #[.pointer (some ⟨w.heap.size,0,none⟩)]]) (by simp) (by simp [go_sem]) ?_;refine (schema_gave EP.out).mono ?_;rintro e u' w'' ⟨rfl,rfl,⟨y0,y1,y2⟩,y3,hbf⟩;simp [Leaves,settle,results,Tryz.results108,go_sem,y0,y1,y2,y3];exact ⟨rfl,hbf⟩)
           | some ql =>
             obtain ⟨l,r4⟩:=ql
             rw [hq2] at HPJ
             have HNX:=Lib.hid (rep_yes HLU.out.1 hq2)
             obtain ⟨hlr4,hl8⟩:=pList_len hq2
             have hr4s:r4.length≤1000000:=by omega
             have h63:j+1≤maxLen:=by unfold maxLen;omega
             have hby:(j+1) * 24≤140737488355328:=by omega
             have hone : ∀ Al cl,∀ u ∈ [(.slice Al l.length cl:Value)],u.oneCell'=true:=fun _ _=>by simp [Value.oneCell']
             have HW3:Hid (w.heap.size+3≤wr.drew.heap.size):=D.out.lt
             clear hq2
             go_wp2_with fail
             refine wp_region_noPanic ?_
             refine wp_region_held_drew (S:=(fun _:World=>True)) (by kernel_rfl) ?_ (fun hHr2_0=>?_)
             ·(try dsimp only);(first | done | trivial)
             refine tk 0 ?_
             refine tk 2 ?_
             refine wpAnyH_ready (rs:=[1,3]) (by kernel_rfl) (by simp) ?_
             refine AllReadyH.cons (o:=_) rfl (fun K hK=>?_) (AllReadyH.cons (o:=_) rfl (fun K hK=>?_) (AllReadyH.nil))
             ·go_simp
              refine hK.out _ _ ?_ (fun hHr2_1=>?_)
              ·(try dsimp only);(first | done | trivial)
              clear hK K hHr2_0
              try simp only [tkp0,tkp1,tkp2,tkp3,tkp4,tkp5,tkp6,tkp7]
              refine rd1 3 (fun K hK=>?_)
              go_simp
              (go_at_call 136;refine HPJ.out.mono ?_;rintro e w7 ⟨Al,cl,rfl,hol,ht7,hg7⟩;have D7:=Lib.hid ((D.out.bel (Bel.refl wr).drew).tape hg7 ht7);have hal:Bel w7 (w7.alloc (.cells #[.slice Al l.length cl] 24)):=(Bel.refl w7).alloc _;have D8:=Lib.hid (D7.out.bel hal);have OU8:=Lib.hid (ownsRow_bel (ownsRow_grown (ownsRow_bel OU.out.1 (Bel.refl wr).drew) hg7 (by omega)) hal);have RI8:=Lib.hid (((OU.out.2.bel (Bel.refl wr).drew).grown hg7 (by omega)).bel hal);have OC8:=Lib.hid (ownsRow_bel (ownsRow_grown (ownsRow_bel OC.out (Bel.refl wr).drew) hg7 (by omega)) hal);have OK8:=Lib.hid (ownsRow_bel (ownsRow_grown (ownsRow_bel OK.out (Bel.refl wr).drew) hg7 (by omega)) hal);have OL8:=Lib.hid (ownsRow_bel hol hal);have HX:=Lib.hid (zreads_new w7 (.slice Al l.length cl) 24);have HBA:Hid (w.heap.size+3≤(w7.alloc (.cells #[.slice Al l.length cl] 24)).heap.size):=D8.out.lt;obtain ⟨⟨k0,k1,k2⟩,-⟩:=D7.out.1.cells;obtain ⟨⟨m0,m1,m2⟩,-⟩:=D8.out.1.cells;clear hol ht7 hg7 hal)
              try (go_wp2_with fail)
              refine hK.out _ _ ?_ (fun hHr2_2=>?_)
              ·(try dsimp only);(first | done | trivial)
              clear hK K hHr2_1
              try simp only [tkp0,tkp1,tkp2,tkp3,tkp4,tkp5,tkp6,tkp7]
              refine rd1 4 (fun K hK=>?_)
              go_simp
              refine hK.out _ _ ?_ (fun hHr2_3=>?_)
              ·(try dsimp only);(first | done | trivial)
              clear hK K hHr2_2
              try simp only [tkp0,tkp1,tkp2,tkp3,tkp4,tkp5,tkp6,tkp7]
              refine rd1 5 (fun K hK=>?_)
              rw [if_pos (by first | rfl | kernel_rfl)]
              (refine wp_append_any _ (.tmp 44) (.tmp 47) 25 rfl (w.heap.size+3) 24 j0 _ 1 24 Tryz.underlying25 hj0 hy0 hy1 hy2 rfl hp1 (.slice A2 j c2) j us (by rfl) OU8.out _ (some ⟨w7.heap.size,0,none⟩) 1 1 _ (by rfl) HX.out (hone Al cl) h63 hby HBA.out ?_;intro v9 w9 hown9 hg9 hat9;obtain ⟨A9,c9,rfl⟩:=row_any hown9;have D9:=Lib.hid (D8.out.own hg9 (fun j e=>own_ge2 OU8.out j e));have RI9:=Lib.hid ((RI8.out.keep OU8.out hg9).snoc hown9.1 (zown_keep OU8.out OL8.out (by decide) hg9) HW3.out);have OC9:=Lib.hid (zown_keep OU8.out OC8.out (by decide) hg9);have OK9:=Lib.hid (zown_keep OU8.out OK8.out (by decide) hg9);have OU9:=Lib.hid hown9;obtain ⟨⟨g0,g1,g2⟩,⟨f0,f1,f2⟩,-⟩:=D9.out.1.cells;clear hown9 hg9 hat9)
              refine hK.out _ _ ?_ (fun hHr2_4=>?_)
              ·(try dsimp only);(first | done | trivial)
              clear hK K hHr2_3
              try simp only [tkp0,tkp1,tkp2,tkp3,tkp4,tkp5,tkp6,tkp7]
              refine tk 6 ?_
              refine rd1 7 (fun K hK=>?_)
              go_simp
              refine hK.out _ _ ?_ (fun hHr2_5=>?_)
              ·(try dsimp only);(first | done | trivial)
              clear hK K hHr2_4
              try simp only [tkp0,tkp1,tkp2,tkp3,tkp4,tkp5,tkp6,tkp7]
              refine wpAnyH_done (by kernel_rfl) ?_ _
              refine NoPanic.normal ?_
              (have D10:=Lib.hid (D9.out.set2 (u:=.slice A9 (j+1) c9) ⟨_,_,_,rfl⟩);have OU10:=Lib.hid (own_set (p:=⟨w.heap.size,2,none⟩) OU9.out (fun j e=>by have:=own_ge2 OU9.out j e;dsimp only;omega) (.slice A9 (j+1) c9));have OC10:=Lib.hid (own_set (p:=⟨w.heap.size,2,none⟩) OC9.out (fun j e=>by have:=own_ge2 OC9.out j e;dsimp only;omega) (.slice A9 (j+1) c9));have OK10:=Lib.hid (own_set (p:=⟨w.heap.size,2,none⟩) OK9.out (fun j e=>by have:=own_ge2 OK9.out j e;dsimp only;omega) (.slice A9 (j+1) c9));have RI10:=Lib.hid (RI9.out.set (p:=⟨w.heap.size,2,none⟩) (by dsimp only;omega) (.slice A9 (j+1) c9));go_wp2;go_roundw;(case rel=>exact ⟨j+1,LU ++ [l],us ++ [.slice Al l.length cl],r4,A9,c9,by omega,by go_num,hr4s,⟨HNX.out,by rw [List.length_append,HLU.out.2];rfl⟩,D10.out,⟨OU10.out,RI10.out⟩,OC10.out,OK10.out⟩);(case measure=>(simp [intOf];omega)))
             ·go_simp
              (go_at_call 136;refine HPJ.out.mono ?_;rintro e w7 ⟨Al,cl,rfl,hol,ht7,hg7⟩;have D7:=Lib.hid ((D.out.bel (Bel.refl wr).drew).tape hg7 ht7);have hal:Bel w7 (w7.alloc (.cells #[.slice Al l.length cl] 24)):=(Bel.refl w7).alloc _;have D8:=Lib.hid (D7.out.bel hal);have OU8:=Lib.hid (ownsRow_bel (ownsRow_grown (ownsRow_bel OU.out.1 (Bel.refl wr).drew) hg7 (by omega)) hal);have RI8:=Lib.hid (((OU.out.2.bel (Bel.refl wr).drew).grown hg7 (by omega)).bel hal);have OC8:=Lib.hid (ownsRow_bel (ownsRow_grown (ownsRow_bel OC.out (Bel.refl wr).drew) hg7 (by omega)) hal);have OK8:=Lib.hid (ownsRow_bel (ownsRow_grown (ownsRow_bel OK.out (Bel.refl wr).drew) hg7 (by omega)) hal);have OL8:=Lib.hid (ownsRow_bel hol hal);have HX:=Lib.hid (zreads_new w7 (.slice Al l.length cl) 24);have HBA:Hid (w.heap.size+3≤(w7.alloc (.cells #[.slice Al l.length cl] 24)).heap.size):=D8.out.lt;obtain ⟨⟨k0,k1,k2⟩,-⟩:=D7.out.1.cells;obtain ⟨⟨m0,m1,m2⟩,-⟩:=D8.out.1.cells;clear hol ht7 hg7 hal)
              try (go_wp2_with fail)
              refine hK.out _ _ ?_ (fun hHr2_1=>?_)
              ·(try dsimp only);(first | done | trivial)
              clear hK K hHr2_0
              try simp only [tkp0,tkp1,tkp2,tkp3,tkp4,tkp5,tkp6,tkp7]
              refine wpAnyH_ready (rs:=[1,4]) (by kernel_rfl) (by simp) ?_
              refine AllReadyH.cons (o:=_) rfl (fun K hK=>?_) (AllReadyH.cons (o:=_) rfl (fun K hK=>?_) (AllReadyH.nil))
              ·go_simp
               refine hK.out _ _ ?_ (fun hHr2_2=>?_)
               ·(try dsimp only);(first | done | trivial)
               clear hK K hHr2_1
               try simp only [tkp0,tkp1,tkp2,tkp3,tkp4,tkp5,tkp6,tkp7]
               refine rd1 4 (fun K hK=>?_)
               go_simp
               refine hK.out _ _ ?_ (fun hHr2_3=>?_)
               ·(try dsimp only);(first | done | trivial)
               clear hK K hHr2_2
               try simp only [tkp0,tkp1,tkp2,tkp3,tkp4,tkp5,tkp6,tkp7]
               refine rd1 5 (fun K hK=>?_)
               rw [if_pos (by first | rfl | kernel_rfl)]
               (refine wp_append_any _ (.tmp 44) (.tmp 47) 25 rfl (w.heap.size+3) 24 j0 _ 1 24 Tryz.underlying25 hj0 hy0 hy1 hy2 rfl hp1 (.slice A2 j c2) j us (by rfl) OU8.out _ (some ⟨w7.heap.size,0,none⟩) 1 1 _ (by rfl) HX.out (hone Al cl) h63 hby HBA.out ?_;intro v9 w9 hown9 hg9 hat9;obtain ⟨A9,c9,rfl⟩:=row_any hown9;have D9:=Lib.hid (D8.out.own hg9 (fun j e=>own_ge2 OU8.out j e));have RI9:=Lib.hid ((RI8.out.keep OU8.out hg9).snoc hown9.1 (zown_keep OU8.out OL8.out (by decide) hg9) HW3.out);have OC9:=Lib.hid (zown_keep OU8.out OC8.out (by decide) hg9);have OK9:=Lib.hid (zown_keep OU8.out OK8.out (by decide) hg9);have OU9:=Lib.hid hown9;obtain ⟨⟨g0,g1,g2⟩,⟨f0,f1,f2⟩,-⟩:=D9.out.1.cells;clear hown9 hg9 hat9)
               refine hK.out _ _ ?_ (fun hHr2_4=>?_)
               ·(try dsimp only);(first | done | trivial)
               clear hK K hHr2_3
               try simp only [tkp0,tkp1,tkp2,tkp3,tkp4,tkp5,tkp6,tkp7]
               refine tk 6 ?_
               refine rd1 7 (fun K hK=>?_)
               go_simp
               refine hK.out _ _ ?_ (fun hHr2_5=>?_)
               ·(try dsimp only);(first | done | trivial)
               clear hK K hHr2_4
               try simp only [tkp0,tkp1,tkp2,tkp3,tkp4,tkp5,tkp6,tkp7]
               refine wpAnyH_done (by kernel_rfl) ?_ _
               refine NoPanic.normal ?_
               (have D10:=Lib.hid (D9.out.set2 (u:=.slice A9 (j+1) c9) ⟨_,_,_,rfl⟩);have OU10:=Lib.hid (own_set (p:=⟨w.heap.size,2,none⟩) OU9.out (fun j e=>by have:=own_ge2 OU9.out j e;dsimp only;omega) (.slice A9 (j+1) c9));have OC10:=Lib.hid (own_set (p:=⟨w.heap.size,2,none⟩) OC9.out (fun j e=>by have:=own_ge2 OC9.out j e;dsimp only;omega) (.slice A9 (j+1) c9));have OK10:=Lib.hid (own_set (p:=⟨w.heap.size,2,none⟩) OK9.out (fun j e=>by have:=own_ge2 OK9.out j e;dsimp only;omega) (.slice A9 (j+1) c9));have RI10:=Lib.hid (RI9.out.set (p:=⟨w.heap.size,2,none⟩) (by dsimp only;omega) (.slice A9 (j+1) c9));go_wp2;go_roundw;(case rel=>exact ⟨j+1,LU ++ [l],us ++ [.slice Al l.length cl],r4,A9,c9,by omega,by go_num,hr4s,⟨HNX.out,by rw [List.length_append,HLU.out.2];rfl⟩,D10.out,⟨OU10.out,RI10.out⟩,OC10.out,OK10.out⟩);(case measure=>(simp [intOf];omega)))
              ·go_simp
               refine hK.out _ _ ?_ (fun hHr2_2=>?_)
               ·(try dsimp only);(first | done | trivial)
               clear hK K hHr2_1
               try simp only [tkp0,tkp1,tkp2,tkp3,tkp4,tkp5,tkp6,tkp7]
               refine rd1 1 (fun K hK=>?_)
               go_simp
               refine hK.out _ _ ?_ (fun hHr2_3=>?_)
               ·(try dsimp only);(first | done | trivial)
               clear hK K hHr2_2
               try simp only [tkp0,tkp1,tkp2,tkp3,tkp4,tkp5,tkp6,tkp7]
               refine rd1 5 (fun K hK=>?_)
               rw [if_pos (by first | rfl | kernel_rfl)]
               (refine wp_append_any _ (.tmp 44) (.tmp 47) 25 rfl (w.heap.size+3) 24 j0 _ 1 24 Tryz.underlying25 hj0 hy0 hy1 hy2 rfl hp1 (.slice A2 j c2) j us (by rfl) OU8.out _ (some ⟨w7.heap.size,0,none⟩) 1 1 _ (by rfl) HX.out (hone Al cl) h63 hby HBA.out ?_;intro v9 w9 hown9 hg9 hat9;obtain ⟨A9,c9,rfl⟩:=row_any hown9;have D9:=Lib.hid (D8.out.own hg9 (fun j e=>own_ge2 OU8.out j e));have RI9:=Lib.hid ((RI8.out.keep OU8.out hg9).snoc hown9.1 (zown_keep OU8.out OL8.out (by decide) hg9) HW3.out);have OC9:=Lib.hid (zown_keep OU8.out OC8.out (by decide) hg9);have OK9:=Lib.hid (zown_keep OU8.out OK8.out (by decide) hg9);have OU9:=Lib.hid hown9;obtain ⟨⟨g0,g1,g2⟩,⟨f0,f1,f2⟩,-⟩:=D9.out.1.cells;clear hown9 hg9 hat9)
               refine hK.out _ _ ?_ (fun hHr2_4=>?_)
               ·(try dsimp only);(first | done | trivial)
               clear hK K hHr2_3
               try simp only [tkp0,tkp1,tkp2,tkp3,tkp4,tkp5,tkp6,tkp7]
               refine tk 6 ?_
               refine rd1 7 (fun K hK=>?_)
               go_simp
               refine hK.out _ _ ?_ (fun hHr2_5=>?_)
               ·(try dsimp only);(first | done | trivial)
               clear hK K hHr2_4
               try simp only [tkp0,tkp1,tkp2,tkp3,tkp4,tkp5,tkp6,tkp7]
               refine wpAnyH_done (by kernel_rfl) ?_ _
               refine NoPanic.normal ?_
               (have D10:=Lib.hid (D9.out.set2 (u:=.slice A9 (j+1) c9) ⟨_,_,_,rfl⟩);have OU10:=Lib.hid (own_set (p:=⟨w.heap.size,2,none⟩) OU9.out (fun j e=>by have:=own_ge2 OU9.out j e;dsimp only;omega) (.slice A9 (j+1) c9));have OC10:=Lib.hid (own_set (p:=⟨w.heap.size,2,none⟩) OC9.out (fun j e=>by have:=own_ge2 OC9.out j e;dsimp only;omega) (.slice A9 (j+1) c9));have OK10:=Lib.hid (own_set (p:=⟨w.heap.size,2,none⟩) OK9.out (fun j e=>by have:=own_ge2 OK9.out j e;dsimp only;omega) (.slice A9 (j+1) c9));have RI10:=Lib.hid (RI9.out.set (p:=⟨w.heap.size,2,none⟩) (by dsimp only;omega) (.slice A9 (j+1) c9));go_wp2;go_roundw;(case rel=>exact ⟨j+1,LU ++ [l],us ++ [.slice Al l.length cl],r4,A9,c9,by omega,by go_num,hr4s,⟨HNX.out,by rw [List.length_append,HLU.out.2];rfl⟩,D10.out,⟨OU10.out,RI10.out⟩,OC10.out,OK10.out⟩);(case measure=>(simp [intOf];omega)))
          ·obtain rfl:j=u:=by omega
           have HRF:=Lib.hid (HP3.out.2 LU r' HLU.out.1)
           have hcols:=cols_of_own OC.out HLN.out.symm
           have hkey:=ints_of_own OK.out
           have huq:=lists_of_own OU.out.1 OU.out.2
           have HEN:=Lib.hid (cdEncodeSchema_any _ _ _ L key LU wr hcols hkey huq)
           clear hlt hj hcols hkey huq HP3
           go_wp2_with fail
           refine HEN.out.mono ?_
           rintro e w7 ⟨v7,rfl,hv7,hb7⟩
           have D7:=Lib.hid (D.out.bel hb7)
           have OU7:=Lib.hid (And.intro (ownsRow_bel OU.out.1 hb7) (OU.out.2.bel hb7))
           have OC7:=Lib.hid (ownsRow_bel OC.out hb7)
           have OK7:=Lib.hid (ownsRow_bel OK.out hb7)
           have HBW:=Lib.hid (HBS.out.bel (D7.out.1.1))
           clear hb7 HEN D OU OC OK z0 z1 z2 x0 x1 x2
           unfold encSR at hv7 ⊢
           by_cases hri:rightS L key LU=true
           ·rw [if_pos hri] at hv7 ⊢
            dsimp only at hv7 ⊢
            have HEQ:=slEqualBytes_any v7 (.slice Ab s.length cb) (encSch L key LU) s w7 hv7 HBW.out
            obtain ⟨A7,c7,rfl,-⟩:=hv7
            by_cases heq:encSch L key LU=s
            ·obtain rfl:R=some (L,key,LU):=by rw [HRF.out,if_pos ⟨hri,heq⟩]
             rw [decide_eq_true heq] at HEQ
             have HEQ:=Lib.hid HEQ
             clear heq hri HRF
             go_wp2_with (first | (go_at_call 40;refine HEQ.out.mono ?_;rintro e w8 ⟨rfl,hb8⟩;have D8:=Lib.hid (D7.out.bel hb8);obtain ⟨⟨z0,z1,z2⟩,⟨x0,x1,x2⟩,z3,x3⟩:=D8.out.1.cells) | (go_at_call 137;refine (must_yes _).mono ?_;rintro e w' ⟨rfl,rfl⟩))
             have OU8:=Lib.hid (And.intro (ownsRow_bel OU7.out.1 hb8) (OU7.out.2.bel hb8))
             have OC8:=Lib.hid (ownsRow_bel OC7.out hb8)
             have OK8:=Lib.hid (ownsRow_bel OK7.out hb8)
             obtain ⟨Wf,hWf⟩ : ∃ V,V=(((w8.setCell ⟨w.heap.size,0,none⟩ (.slice A k c)).setCell ⟨w.heap.size,1,none⟩ (.slice Ak key.length ck)).setCell ⟨w.heap.size,2,none⟩ (.slice A2 j c2)).setCell ⟨w.heap.size+1,0,none⟩ (.int .i64 0):=⟨_,rfl⟩
             have r0f:Wf.cell? ⟨w.heap.size,0,none⟩=some (.slice A k c):=by rw [hWf];go_simp
             have r1f:Wf.cell? ⟨w.heap.size,1,none⟩=some (.slice Ak key.length ck):=by rw [hWf];go_simp
             have r2f:Wf.cell? ⟨w.heap.size,2,none⟩=some (.slice A2 j c2):=by rw [hWf];go_simp
             have r3f:Wf.cell? ⟨w.heap.size+1,0,none⟩=some (.int .i64 0):=by rw [hWf];go_simp
             have HFIN:Hid (ColsIn w.heap.size Wf (.slice A k c) L∧IntsIn w.heap.size Wf (.slice Ak key.length ck) key∧ListsIn w.heap.size Wf (.slice A2 j c2) LU∧Bel w Wf):=by
              rw [hWf]
              have a0:=fun {b T s n:Nat} {v:Value} {xs:List Value} (V:World) (h:V.ownsRow b T s v n xs) (hb:w.heap.size+3≤b) (p:Addr) (hp:p.block<w.heap.size+3) (q:Value)=>own_set (p:=p) h (fun j e=>by have:=own_ge2 h j e;omega) q
              have h0:(⟨w.heap.size,0,none⟩:Addr).block<w.heap.size+3:=by dsimp only;omega
              have h1:(⟨w.heap.size,1,none⟩:Addr).block<w.heap.size+3:=by dsimp only;omega
              have h2:(⟨w.heap.size,2,none⟩:Addr).block<w.heap.size+3:=by dsimp only;omega
              have h3:(⟨w.heap.size+1,0,none⟩:Addr).block<w.heap.size+3:=by dsimp only;omega
              exact ⟨cols_in (a0 _ (a0 _ (a0 _ (a0 _ OC8.out (Nat.le_refl _) _ h0 _) (Nat.le_refl _) _ h1 _) (Nat.le_refl _) _ h2 _) (Nat.le_refl _) _ h3 _) HLN.out.symm,
               ints_in (a0 _ (a0 _ (a0 _ (a0 _ OK8.out hbk _ h0 _) hbk _ h1 _) hbk _ h2 _) hbk _ h3 _),
               lists_in (a0 _ (a0 _ (a0 _ (a0 _ OU8.out.1 (Nat.le_refl _) _ h0 _) (Nat.le_refl _) _ h1 _) (Nat.le_refl _) _ h2 _) (Nat.le_refl _) _ h3 _) ((((OU8.out.2.set h0 _).set h1 _).set h2 _).set h3 _),
               (((D8.out.1.1.setCell (Nat.le_refl _) _).setCell (Nat.le_refl _) _).setCell (Nat.le_refl _) _).setCell (Nat.le_succ _) _⟩
             try rw [← hWf]
             clear hWf hb8 z0 z1 z2 z3 x0 x1 x2 x3 D8 OU8 OC8 OK8
             try go_wp2
             refine leaves_cons (f:=132) (args:=#[.pointer (some ⟨w.heap.size+1,0,none⟩),.func (.func 133) #[] #[.pointer (some ⟨w.heap.size,0,none⟩)]]) (by simp) (by simp [go_sem]) ?_
             refine (caught_idle _ _ _).mono ?_
             rintro e u' w'' ⟨rfl,rfl,rfl⟩
             simp [Leaves,settle,results,Tryz.results108,go_sem,r0f,r1f,r2f,r3f]
             exact ⟨_,_,_,rfl,HFIN.out.1,HFIN.out.2.1,HFIN.out.2.2.1,HFIN.out.2.2.2⟩
            ·obtain rfl:R=none:=by rw [HRF.out,if_neg (fun h=>heq h.2)]
             rw [decide_eq_false heq] at HEQ
             have HEQ:=Lib.hid HEQ
             clear heq hri HRF OU7 OC7 OK7
             go_wp2_with (first | (go_at_call 40;refine HEQ.out.mono ?_;rintro e w8 ⟨rfl,hb8⟩;have EP:=Lib.hid (D7.out.bel hb8).1) | (go_at_call 137;refine (must_no _).mono ?_;rintro e w' ⟨rfl,rfl⟩))
             try go_wp2
             refine leaves_cons (f:=132) (args:=#[.pointer (some ⟨w.heap.size+1,0,none⟩),.func (.func 133) #[] #[.pointer (some ⟨w.heap.size,0,none⟩)]]) (by simp) (by simp [go_sem]) ?_
             refine (schema_gave EP.out).mono ?_
             rintro e u' w'' ⟨rfl,rfl,⟨y0,y1,y2⟩,y3,hbf⟩
             simp [Leaves,settle,results,Tryz.results108,go_sem,y0,y1,y2,y3]
             exact ⟨rfl,hbf⟩
           ·rw [if_neg hri] at hv7 ⊢
            dsimp only at hv7 ⊢
            obtain rfl:R=none:=by rw [HRF.out,if_neg (fun h=>hri h.1)]
            obtain ⟨A7,c7,rfl,-⟩:=hv7
            have EP:=Lib.hid D7.out.1
            clear hri HRF OU7 OC7 OK7
            go_wp2_with (go_at_call 137;refine (must_no _).mono ?_;rintro e w' ⟨rfl,rfl⟩)
            try go_wp2
            refine leaves_cons (f:=132) (args:=#[.pointer (some ⟨w.heap.size+1,0,none⟩),.func (.func 133) #[] #[.pointer (some ⟨w.heap.size,0,none⟩)]]) (by simp) (by simp [go_sem]) ?_
            refine (schema_gave EP.out).mono ?_
            rintro e u' w'' ⟨rfl,rfl,⟨y0,y1,y2⟩,y3,hbf⟩
            simp [Leaves,settle,results,Tryz.results108,go_sem,y0,y1,y2,y3]
            exact ⟨rfl,hbf⟩
end
end Go.Proofs.YtnajjhgbombboaaGreatDoor
