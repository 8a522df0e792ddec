/-
  Texts behind the statement: part 17.
-/
import Derived.Test.YtnajjhgbombboaaGreatDoorP9
set_option linter.unusedVariables false
set_option linter.unusedSimpArgs false
namespace Go.Proofs.YtnajjhgbombboaaGreatDoor
section
open Go.RowKit Go.Shelf Go.Lib
theorem zinfoC:(Tryz.prog.info? 67).map (fun i=>(i.zero,i.size,i.bytes))=some (some (.agg #[.string ⟨#[]⟩,.int .i64 0,.int .i64 0,.bool false]),4,40):=by kernel_rfl
theorem zinfoIs:(Tryz.prog.info? 24).map (fun i=>(i.zero,i.size,i.bytes))=some (some (.slice none 0 0),1,24):=by kernel_rfl
def crow (x:Col):List Value:=[.string x.name,.int .i64 x.t,.int .i64 x.z,.bool x.null]
def crows (l:List Col):List Value:=l.flatMap crow
theorem crows_append (l k:List Col):crows (l ++ k)=crows l ++ crows k:=by simp [crows]
theorem crows_at : ∀ (l:List Col) (k j:Nat) (x:Col),l[k]? = some x→j<4→(crows l)[k * 4+j]? = (crow x)[j]?
 | [],k,j,x,h,_=>by simp at h
 | y :: l,0,j,x,h,hj=>by
   simp at h
   subst h
   show (crow y ++ crows l)[0 * 4+j]? = _
   rw [List.getElem?_append_left (by simp [crow];omega)]
   simp
 | y :: l,k+1,j,x,h,hj=>by
   show (crow y ++ crows l)[(k+1) * 4+j]? = _
   have e:(crow y).length=4:=rfl
   rw [List.getElem?_append_right (by omega),e,show (k+1) * 4+j - 4=k * 4+j by omega]
   exact crows_at l k j x (by simpa using h) hj
theorem cols_of_own {w:World} {b n:Nat} {v:Value} {l:List Col} (h:w.ownsRow b 67 4 v n (crows l)) (hn:n=l.length):ColsAt w v l:=by
 subst hn
 rcases h.2 with ⟨rfl,hl⟩ | ⟨g,cap,cur,rfl,hbg,hg,h2,h3,h4,h5⟩
 ·exact ⟨none,0,by rw [hl],by omega,by unfold maxLen;omega,fun h0=>by omega⟩
 ·refine ⟨_,cap,rfl,h2,by omega,fun h0=>⟨g,0,rfl,fun i x hx=>?_⟩⟩
  have hc : ∀ j u,(crows l)[j]? = some u→w.cell? ⟨g,0+j,none⟩=some u:=fun j u hu=>by
   have:=h.cells (g:=g) rfl j u hu
   rw [Addr.add_lit] at this
   exact this
  refine ⟨?_,?_,?_,?_⟩
  ·have:=hc (i * 4) _ ((crows_at l i 0 x hx (by omega)).trans rfl);exact this
  ·have:=hc (i * 4+1) _ ((crows_at l i 1 x hx (by omega)).trans rfl);rw [← Nat.add_assoc] at this;exact this
  ·have:=hc (i * 4+2) _ ((crows_at l i 2 x hx (by omega)).trans rfl);rw [← Nat.add_assoc] at this;exact this
  ·have:=hc (i * 4+3) _ ((crows_at l i 3 x hx (by omega)).trans rfl);rw [← Nat.add_assoc] at this;exact this
theorem ints_of_own {w:World} {b n:Nat} {v:Value} {l:List Int} (h:w.ownsRow b 3 1 v n (l.map fun x=>.int .i64 x)):IntsAt w v l:=by
 have hn:n=l.length:=by have:=h.1;rw [Nat.mul_one] at this;rw [← this];simp
 subst hn
 rcases h.2 with ⟨rfl,h0⟩ | ⟨g,cap,cur,rfl,hbg,hh,hnc,hcm,hcs,htk⟩
 ·exact ⟨none,0,by rw [h0],by omega,Nat.zero_le _,fun h=>by omega⟩
 ·refine ⟨some ⟨g,0,none⟩,cap,rfl,hnc,hcm,fun hn=>⟨g,0,rfl,fun i x hx=>?_⟩⟩
  have:=h.cells (g:=g) rfl i (.int .i64 x) (by simp [hx])
  rw [Addr.add_lit] at this
  exact this
def RowsI (n:Nat) (V:World) (us:List Value) (L:List (List Int)):Prop:=us.length=L.length ∧ ∀ (j:Nat) (u:Value) (l:List Int),us[j]? = some u→L[j]? = some l → ∃ b,n≤b∧V.ownsRow b 3 1 u l.length (l.map fun x=>.int .i64 x)
theorem lists_of_own {w:World} {b n m:Nat} {v:Value} {us:List Value} {L:List (List Int)} (h:w.ownsRow b 24 1 v n us) (hu:RowsI m w us L):ListsAt w v L:=by
 have hn:n=L.length:=by have:=h.1;rw [Nat.mul_one] at this;rw [← this,hu.1]
 subst hn
 rcases h.2 with ⟨rfl,h0⟩ | ⟨g,cap,cur,rfl,hbg,hh,hnc,hcm,hcs,htk⟩
 ·exact ⟨none,0,by rw [h0],by omega,Nat.zero_le _,fun h=>by omega⟩
 ·refine ⟨some ⟨g,0,none⟩,cap,rfl,hnc,hcm,fun hn=>⟨g,0,rfl,fun i l hl=>?_⟩⟩
  have hlt:=(List.getElem?_eq_some_iff.1 hl).1
  obtain ⟨u,huu⟩ : ∃ u,us[i]? = some u:=⟨_,List.getElem?_eq_getElem (by rw [hu.1];exact hlt)⟩
  obtain ⟨b2,-,ho⟩:=hu.2 i u l huu hl
  have:=h.cells (g:=g) rfl i u huu
  rw [Addr.add_lit] at this
  exact ⟨u,this,ints_of_own ho⟩
theorem zown_keep {V V':World} {b1 b2:Nat} {T1 T2:TypeId} {s1 s2:Nat} {v1 v2:Value} {n1 n2:Nat} {xs1 xs2:List Value} (h1:V.ownsRow b1 T1 s1 v1 n1 xs1) (h2:V.ownsRow b2 T2 s2 v2 n2 xs2) (hT:T1 ≠ T2) (hg:V.grownBy V' v1.ownBlock):V'.ownsRow b2 T2 s2 v2 n2 xs2:=by
 refine ⟨h2.1,?_⟩
 rcases h2.2 with h | ⟨g,cap,cur,hv,hgb,hh,r⟩
 ·exact .inl h
 ·refine .inr ⟨g,cap,cur,hv,hgb,(hg.block g (Array.getElem?_eq_some_iff.1 hh).1 (fun e=>?_)).trans hh,r⟩
  have hB:Blk V g T2 cur:=hh
  exact own_blk_ne h1 hB hT e.symm
theorem RowsI.grown {n m:Nat} {V V':World} {us:List Value} {L:List (List Int)} (h:RowsI n V us L) (hg:V.grownBy V' (some m)) (hm:m<n):RowsI n V' us L:=⟨h.1,fun j u l hu hl=>by obtain ⟨b,h1,h2⟩:=h.2 j u l hu hl;exact ⟨b,h1,ownsRow_grown h2 hg (by omega)⟩⟩
theorem RowsI.bel {n:Nat} {V V':World} {us:List Value} {L:List (List Int)} (h:RowsI n V us L) (hb:Bel V V'):RowsI n V' us L:=⟨h.1,fun j u l hu hl=>by obtain ⟨b,h1,h2⟩:=h.2 j u l hu hl;exact ⟨b,h1,ownsRow_bel h2 hb⟩⟩
def IsSl (v:Value):Prop:=∃ A n c,v = .slice A n c
def DS0 (w:World) (v0 v1 v2:Value) (V:World):Prop:=Bel w V∧Blk V w.heap.size 27 #[v0,v1,v2]∧Blk V (w.heap.size+1) 35 #[.int .i64 0]
def DSt (w:World) (v0 v1 v2:Value) (r:List UInt8) (V:World):Prop:=DS0 w v0 v1 v2 V∧TapeAt V (w.heap.size+2) r∧IsSl v0∧IsSl v1∧IsSl v2
theorem DS0.grown {w V V':World} {v0 v1 v2:Value} {row:Option Nat} (h:DS0 w v0 v1 v2 V) (hg:V.grownBy V' row) (hr : ∀ j,row=some j→w.heap.size+2≤j):DS0 w v0 v1 v2 V' :=
 ⟨Below.grown h.1 hg h.1.size (fun j e=>by have:=hr j e;omega),h.2.1.grown hg (fun e=>by have:=hr _ e.symm;omega),h.2.2.grown hg (fun e=>by have:=hr _ e.symm;omega)⟩
theorem DSt.lt {w V:World} {v0 v1 v2:Value} {r:List UInt8} (h:DSt w v0 v1 v2 r V):w.heap.size+3≤V.heap.size:=h.2.1.lt
theorem DSt.tape {w V V':World} {v0 v1 v2:Value} {r r':List UInt8} (h:DSt w v0 v1 v2 r V) (hg:V.grownBy V' (some (w.heap.size+2))) (ht:TapeAt V' (w.heap.size+2) r'):DSt w v0 v1 v2 r' V' :=
 ⟨h.1.grown hg (fun j e=>by cases e;exact Nat.le_refl _),ht,h.2.2⟩
theorem DSt.bel {w V V':World} {v0 v1 v2:Value} {r:List UInt8} (h:DSt w v0 v1 v2 r V) (hb:Bel V V'):DSt w v0 v1 v2 r V':=h.tape (hb.grown _) (h.2.1.bel hb)
theorem DSt.own {w V V':World} {v0 v1 v2:Value} {r:List UInt8} {row:Option Nat} (h:DSt w v0 v1 v2 r V) (hg:V.grownBy V' row) (hr : ∀ j,row=some j→w.heap.size+3≤j):DSt w v0 v1 v2 r V' :=
 ⟨h.1.grown hg (fun j e=>by have:=hr j e;omega),h.2.1.own hg (fun j e=>by have:=hr j e;omega),h.2.2⟩
theorem DSt.far {w V:World} {v0 v1 v2:Value} {r:List UInt8} (h:DSt w v0 v1 v2 r V) {p:Addr} (hp:w.heap.size+3≤p.block) (u:Value):DSt w v0 v1 v2 r (V.setCell p u) :=
 h.own (grown_setCell V p u) (fun j e=>by cases e;exact hp)
theorem tape_set {V:World} {g bt:Nat} {T:TypeId} {v0 v1 v2:Value} {r:List UInt8} (h:TapeAt V bt r) (hB:Blk V g T #[v0,v1,v2]) (h0:IsSl v0) (h1:IsSl v1) (h2:IsSl v2) (hg:g<bt) (i:Nat) (u:Value):TapeAt (V.setCell ⟨g,i,none⟩ u) bt r:=by
 have hG:=grown_setCell V ⟨g,i,none⟩ u
 have hlt:=h.lt
 obtain ⟨A,c,k1,k2,k3,k4,k5⟩:=h
 refine ⟨A,c,grown_c hG k1 (fun e=>by have:=Option.some.inj e;dsimp only at this;omega),grown_f hG k1 k2 (fun e=>by have:=Option.some.inj e;dsimp only at this;omega),k3,k4,k5.1,fun hn=>?_⟩
 obtain ⟨ad,rfl,hb,hc⟩:=k5.2 hn
 refine ⟨ad,rfl,hb,fun j x hx=>?_⟩
 have hcell:=hc j x hx
 refine grown_c hG hcell (fun e=>?_)
 have e:(ad.add j).block=g:=Option.some.inj e
 rw [List.getElem?_map] at hx
 obtain ⟨b,-,rfl⟩:=Option.map_eq_some_iff.1 hx
 generalize hq:ad.add j=q at *
 obtain ⟨qb,qo,qs⟩:=q
 try dsimp only at e
 subst e
 obtain rfl:qs=none:=World.cell?_spot hcell
 rw [hB.cell] at hcell
 obtain ⟨_,_,_,rfl⟩:=h0
 obtain ⟨_,_,_,rfl⟩:=h1
 obtain ⟨_,_,_,rfl⟩:=h2
 match qo,hcell with
 | 0,hcell=>simp [bv] at hcell
 | 1,hcell=>simp [bv] at hcell
 | 2,hcell=>simp [bv] at hcell
 | n+3,hcell=>simp at hcell
theorem DSt.set {w V:World} {v0 v1 v2:Value} {r:List UInt8} (h:DSt w v0 v1 v2 r V) (i:Nat) (u:Value):DS0 w ((#[v0,v1,v2].setIfInBounds i u)[0]?.getD undef) ((#[v0,v1,v2].setIfInBounds i u)[1]?.getD undef) ((#[v0,v1,v2].setIfInBounds i u)[2]?.getD undef) (V.setCell ⟨w.heap.size,i,none⟩ u)∧TapeAt (V.setCell ⟨w.heap.size,i,none⟩ u) (w.heap.size+2) r:=by
 refine ⟨⟨h.1.1.setCell (Nat.le_refl _) _,?_,h.1.2.2.far (by simp) _⟩,tape_set h.2.1 h.1.2.1 h.2.2.1 h.2.2.2.1 h.2.2.2.2 (by omega) i u⟩
 have:=h.1.2.1.set_ i u
 match i with
 | 0=>exact this
 | 1=>exact this
 | 2=>exact this
 | n+3=>simpa using this
theorem DSt.set0 {w V:World} {v0 v1 v2:Value} {r:List UInt8} (h:DSt w v0 v1 v2 r V) {u:Value} (hu:IsSl u):DSt w u v1 v2 r (V.setCell ⟨w.heap.size,0,none⟩ u):=⟨(h.set 0 u).1,(h.set 0 u).2,hu,h.2.2.2⟩
theorem DSt.set1 {w V:World} {v0 v1 v2:Value} {r:List UInt8} (h:DSt w v0 v1 v2 r V) {u:Value} (hu:IsSl u):DSt w v0 u v2 r (V.setCell ⟨w.heap.size,1,none⟩ u):=⟨(h.set 1 u).1,(h.set 1 u).2,h.2.2.1,hu,h.2.2.2.2⟩
theorem DSt.set2 {w V:World} {v0 v1 v2:Value} {r:List UInt8} (h:DSt w v0 v1 v2 r V) {u:Value} (hu:IsSl u):DSt w v0 v1 u r (V.setCell ⟨w.heap.size,2,none⟩ u):=⟨(h.set 2 u).1,(h.set 2 u).2,h.2.2.1,h.2.2.2.1,hu⟩
theorem DS0.cells {w V:World} {v0 v1 v2:Value} (h:DS0 w v0 v1 v2 V):(V.cell? ⟨w.heap.size,0,none⟩=some v0∧V.cell? ⟨w.heap.size,1,none⟩=some v1∧V.cell? ⟨w.heap.size,2,none⟩=some v2)∧(V.frozen? ⟨w.heap.size,0,none⟩=false∧V.frozen? ⟨w.heap.size,1,none⟩=false∧V.frozen? ⟨w.heap.size,2,none⟩=false)∧V.cell? ⟨w.heap.size+1,0,none⟩=some (.int .i64 0)∧V.frozen? ⟨w.heap.size+1,0,none⟩=false :=
 ⟨⟨(h.2.1.cell 0).trans rfl,(h.2.1.cell 1).trans rfl,(h.2.1.cell 2).trans rfl⟩,⟨h.2.1.frozen 0,h.2.1.frozen 1,h.2.1.frozen 2⟩,(h.2.2.cell 0).trans rfl,h.2.2.frozen 0⟩
theorem cdDecodeSchemaC_any (g:Nat) (v0 v1 v2:Value) (w:World) (h0:w.cell? ⟨g,0,none⟩=some v0) (h1:w.cell? ⟨g,1,none⟩=some v1) (h2:w.cell? ⟨g,2,none⟩=some v2) (f0:w.frozen? ⟨g,0,none⟩=false) (f1:w.frozen? ⟨g,1,none⟩=false) (f2:w.frozen? ⟨g,2,none⟩=false) :
 Calls Tryz.prog 133 #[.pointer (some ⟨g,0,none⟩)] w fun e w'=>e = .returned (.tuple #[])∧((w.setCell ⟨g,0,none⟩ (.slice none 0 0)).setCell ⟨g,1,none⟩ (.slice none 0 0)).setCell ⟨g,2,none⟩ (.slice none 0 0)=w':=by
 go_enter Tryz.func133,Tryz.ntmps133
 go_wp2
 go_end0
 exact ⟨rfl,rfl⟩
theorem schema_gave {w V:World} {v0 v1 v2:Value} (D:DS0 w v0 v1 v2 V) :
 CallsD Tryz.prog 132 #[.pointer (some ⟨w.heap.size+1,0,none⟩),.func (.func 133) #[] #[.pointer (some ⟨w.heap.size,0,none⟩)]] (.panicking gaveUp) V fun e u' w' =>
  e = .returned (.tuple #[])∧u' = .panicking [{ v:=.iface 35 (.int .i64 140),recovered:=true }]∧(w'.cell? ⟨w.heap.size,0,none⟩=some (.slice none 0 0)∧w'.cell? ⟨w.heap.size,1,none⟩=some (.slice none 0 0)∧w'.cell? ⟨w.heap.size,2,none⟩=some (.slice none 0 0))∧w'.cell? ⟨w.heap.size+1,0,none⟩=some (.int .i64 140)∧Bel w w':=by
 have hn:=neq_errno
 have ha:=assert_errno
 obtain ⟨⟨c0,c1,c2⟩,⟨f0,f1,f2⟩,c3,f3⟩:=D.cells
 have HFIN:Hid ((fun w':World=>(w'.cell? ⟨w.heap.size,0,none⟩=some (.slice none 0 0)∧w'.cell? ⟨w.heap.size,1,none⟩=some (.slice none 0 0)∧w'.cell? ⟨w.heap.size,2,none⟩=some (.slice none 0 0))∧w'.cell? ⟨w.heap.size+1,0,none⟩=some (.int .i64 140)∧Bel w w') ((((V.setCell ⟨w.heap.size,0,none⟩ (.slice none 0 0)).setCell ⟨w.heap.size,1,none⟩ (.slice none 0 0)).setCell ⟨w.heap.size,2,none⟩ (.slice none 0 0)).setCell ⟨w.heap.size+1,0,none⟩ (.int .i64 140))) :=
  ⟨⟨by go_simp,by go_simp,by go_simp⟩,by go_simp,(((D.1.setCell (Nat.le_refl _) _).setCell (Nat.le_refl _) _).setCell (Nat.le_refl _) _).setCell (Nat.le_succ _) _⟩
 refine callsD_of_wpS Tryz.func132 rfl fun c₀ cs hu=>?_
 unfold gaveUp at hu
 apply wpS_seq
 apply wpS_region
 simp [wpOpsS,go_sem,recoverD,hu,Tryz.ntmps132,Exit.thenS]
 simp only [Array.replicate,List.replicate,List.setIfInBounds_toArray,List.set_cons_succ,List.set_cons_zero,List.append_toArray,List.cons_append,List.nil_append]
 refine wpS_of_wp ?_
 have HC:=Lib.hid (fun V=>cdDecodeSchemaC_any w.heap.size v0 v1 v2 V)
 go_wp2_with fail
 refine (HC.out _ c0 c1 c2 f0 f1 f2).mono ?_
 rintro e w' ⟨rfl,rfl⟩
 have HF2:=HFIN.out
 try dsimp only at HF2
 go_wp2
 clear HC hn ha HFIN
 simp_all [bodyPostS,results,Tryz.results132]
end
section
open Go.RowKit Go.Shelf Go.Lib
attribute [local go_sem] Oper.semAt_some
def BsI (B:Nat) (w:World) (v:Value) (s:List UInt8):Prop:=∃ A c,v = .slice A s.length c∧s.length≤c∧c≤maxLen∧Reads w B 1 A s.length (s.map bv)
theorem BsI.at_ {B:Nat} {w:World} {v:Value} {s:List UInt8} (h:BsI B w v s) (hB:B≤w.heap.size):BsAt w v s:=by
 obtain ⟨A,c,h1,h2,h3,h4⟩:=h
 exact ⟨A,c,h1,h2,h3,h4.more hB⟩
theorem BsI.keep {B:Nat} {w w':World} {v:Value} {s:List UInt8} (h:BsI B w v s) (hb : ∀ p:Addr,p.block<B→w'.cell? p=w.cell? p):BsI B w' v s:=by
 obtain ⟨A,c,h1,h2,h3,h4⟩:=h
 exact ⟨A,c,h1,h2,h3,h4.keep fun p hp=>hb p hp⟩
theorem BsI.bel {B:Nat} {w w':World} {v:Value} {s:List UInt8} (h:BsI B w v s) (hb:Bel w w') (hB:B≤w.heap.size):BsI B w' v s:=h.keep fun p hp=>hb.cell (by omega)
theorem own_set4 {V:World} {b:Nat} {T:TypeId} {s:Nat} {v:Value} {n:Nat} {xs:List Value} (h:V.ownsRow b T s v n xs) {p:Addr} (hp:p.block<b) (u:Value):(V.setCell p u).ownsRow b T s v n xs:=ownsRow_grown h (grown_setCell V p u) hp
end
end Go.Proofs.YtnajjhgbombboaaGreatDoor
