/-
  Texts behind the statement: part 19.
-/
import Derived.Test.YtnajjhgbombboaaGreatDoorP18
set_option linter.unusedVariables false
set_option linter.unusedSimpArgs false
namespace Go.Proofs.YtnajjhgbombboaaGreatDoor
section
open Go.RowKit Go.Shelf Go.Lib
attribute [local go_sem] Oper.semAt_some
def ESt (w:World) (br:Nat) (v0 v1 v2 vr:Value) (bad:Bool) (V:World):Prop:=Bel w V∧Blk V w.heap.size 27 #[.slice none 0 0,.slice none 0 0,.slice none 0 0]∧Blk V (w.heap.size+1) 27 #[v0,v1,v2]∧Blk V br 134 #[vr,.bool bad]∧w.heap.size+2≤br
section
variable {w V V':World} {br:Nat} {v0 v1 v2 vr:Value} {bad:Bool}
theorem ESt.grown (h:ESt w br v0 v1 v2 vr bad V) {row:Option Nat} (hg:V.grownBy V' row) (hr : ∀ j,row=some j→br+1≤j):ESt w br v0 v1 v2 vr bad V':=by
 obtain ⟨h1,h2,h3,h4,h5⟩:=h
 exact ⟨Below.grown h1 hg h1.size (fun j e=>by have:=hr j e;omega),h2.grown hg (fun e=>by have:=hr _ e.symm;omega),h3.grown hg (fun e=>by have:=hr _ e.symm;omega),h4.grown hg (fun e=>by have:=hr _ e.symm;omega),h5⟩
theorem ESt.bel (h:ESt w br v0 v1 v2 vr bad V) (hb:Bel V V'):ESt w br v0 v1 v2 vr bad V':=h.grown (hb.grown none) (fun j e=>by cases e)
theorem ESt.set0 (h:ESt w br v0 v1 v2 vr bad V) (u:Value):ESt w br u v1 v2 vr bad (V.setCell ⟨w.heap.size+1,0,none⟩ u):=by
 obtain ⟨h1,h2,h3,h4,h5⟩:=h
 exact ⟨h1.setCell (Nat.le_succ _) _,h2.far (by simp) _,h3.set_ 0 u,h4.far (by dsimp only;omega) _,h5⟩
theorem ESt.set1 (h:ESt w br v0 v1 v2 vr bad V) (u:Value):ESt w br v0 u v2 vr bad (V.setCell ⟨w.heap.size+1,1,none⟩ u):=by
 obtain ⟨h1,h2,h3,h4,h5⟩:=h
 exact ⟨h1.setCell (Nat.le_succ _) _,h2.far (by simp) _,h3.set_ 1 u,h4.far (by dsimp only;omega) _,h5⟩
theorem ESt.set2 (h:ESt w br v0 v1 v2 vr bad V) (u:Value):ESt w br v0 v1 u vr bad (V.setCell ⟨w.heap.size+1,2,none⟩ u):=by
 obtain ⟨h1,h2,h3,h4,h5⟩:=h
 exact ⟨h1.setCell (Nat.le_succ _) _,h2.far (by simp) _,h3.set_ 2 u,h4.far (by dsimp only;omega) _,h5⟩
theorem ESt.lt (h:ESt w br v0 v1 v2 vr bad V):br+1≤V.heap.size:=h.2.2.2.1.lt
theorem ESt.cells (h:ESt w br v0 v1 v2 vr bad V):(V.cell? ⟨w.heap.size+1,0,none⟩=some v0∧V.cell? ⟨w.heap.size+1,1,none⟩=some v1∧V.cell? ⟨w.heap.size+1,2,none⟩=some v2)∧(V.frozen? ⟨w.heap.size+1,0,none⟩=false∧V.frozen? ⟨w.heap.size+1,1,none⟩=false∧V.frozen? ⟨w.heap.size+1,2,none⟩=false)∧(V.cell? ⟨br,0,none⟩=some vr∧V.cell? ⟨br,1,none⟩=some (.bool bad))∧V.frozen? ⟨br,0,none⟩=false∧V.frozen? ⟨br,1,none⟩=false :=
 ⟨⟨(h.2.2.1.cell 0).trans rfl,(h.2.2.1.cell 1).trans rfl,(h.2.2.1.cell 2).trans rfl⟩,⟨h.2.2.1.frozen 0,h.2.2.1.frozen 1,h.2.2.1.frozen 2⟩,⟨(h.2.2.2.1.cell 0).trans rfl,(h.2.2.2.1.cell 1).trans rfl⟩,h.2.2.2.1.frozen 0,h.2.2.2.1.frozen 1⟩
theorem ESt.res (h:ESt w br v0 v1 v2 vr bad V):(V.cell? ⟨w.heap.size,0,none⟩=some (.slice none 0 0)∧V.cell? ⟨w.heap.size,1,none⟩=some (.slice none 0 0)∧V.cell? ⟨w.heap.size,2,none⟩=some (.slice none 0 0))∧(V.frozen? ⟨w.heap.size,0,none⟩=false∧V.frozen? ⟨w.heap.size,1,none⟩=false∧V.frozen? ⟨w.heap.size,2,none⟩=false) :=
 ⟨⟨(h.2.1.cell 0).trans rfl,(h.2.1.cell 1).trans rfl,(h.2.1.cell 2).trans rfl⟩,h.2.1.frozen 0,h.2.1.frozen 1,h.2.1.frozen 2⟩
end
theorem BsI.up {w V:World} {v:Value} {s:List UInt8} (h:BsI w.heap.size w v s) (hb:Bel w V):BsI w.heap.size V v s:=h.keep fun p hp=>hb.cell hp
end
section
section
open Go.RowKit Go.Shelf Go.Lib
attribute [local go_sem] Oper.semAt_some
theorem encCols_len : ∀ (l:List Col),(∀ c ∈ l,c.t≤4∧c.z≤200∧c.name.size≤24)→(encCols l).length≤60 * l.length
 | [],_=>by simp [encCols]
 | c :: l,h=>by
   have h1:=h c (List.mem_cons_self ..)
   have h2:=encCols_len l (fun x hx=>h x (List.mem_cons_of_mem _ hx))
   have hl:(c.name.data.toList).length=c.name.size:=rfl
   have a1:=numB_9 (n:=c.name.data.toList.length) (by rw [hl];omega)
   have a2:=numB_9 (n:=c.t.toNat) (by omega)
   have a3:=numB_9 (n:=c.z.toNat) (by omega)
   have a4:=numB_9 (n:=bNat c.null) (by unfold bNat;split <;> omega)
   show (encCol c ++ encCols l).length≤_
   unfold encCol textB
   simp only [List.length_append,List.length_cons]
   omega
theorem encInts_len : ∀ (l:List Int),(∀ x ∈ l,x<8)→(encInts l).length≤9 * l.length
 | [],_=>by simp [encInts]
 | n :: l,h=>by
   have h1:=h n (List.mem_cons_self ..)
   have h2:=encInts_len l (fun x hx=>h x (List.mem_cons_of_mem _ hx))
   have a1:=numB_9 (n:=n.toNat) (by omega)
   show (numB n.toNat ++ encInts l).length≤_
   simp only [List.length_append,List.length_cons]
   omega
theorem encList_len (l:List Int) (hl:l.length≤4) (h : ∀ x ∈ l,x<8):(encList l).length≤50:=by
 have h2:=encInts_len l h
 have a1:=numB_9 (n:=l.length) (by omega)
 unfold encList
 rw [List.length_append]
 omega
theorem encLists_len : ∀ (L:List (List Int)),(∀ l ∈ L,l.length≤4 ∧ ∀ x ∈ l,x<8)→(encLists L).length≤50 * L.length
 | [],_=>by simp [encLists]
 | l :: L,h=>by
   have h1:=h l (List.mem_cons_self ..)
   have h2:=encLists_len L (fun x hx=>h x (List.mem_cons_of_mem _ hx))
   have a1:=encList_len l h1.1 h1.2
   show (encList l ++ encLists L).length≤_
   simp only [List.length_append,List.length_cons]
   omega
end
end
section
open Go.RowKit
structure Ev where
 k:Int
 t:ByteArray
 c:List Col
 ky:List Int
 u:List (List Int)
 o:List Val
 n:List Val
 ns:List (ByteArray×ByteArray)
deriving DecidableEq
def evOf (k:Int):Ev:=⟨k,⟨#[]⟩,[],[],[],[],[],[]⟩
def Ev.Wf (e:Ev):Prop:=∀ x ∈ e.o ++ e.n,x.Wf
def rowB (l:List Val):Bool:=decide (1≤l.length∧l.length≤8) && l.all (fun x=>decide (checkI x=0))
def nameP (p:ByteArray×ByteArray):Bool:=namedB p.1 && namedB p.2
def namesB (l:List (ByteArray×ByteArray)):Bool:=decide (1≤l.length∧l.length≤4) && l.all nameP
def lensB (e:Ev):Bool:=decide (e.k=2→e.o.length=e.n.length)
def encPair (p:ByteArray×ByteArray):List UInt8:=textB p.1.data.toList ++ textB p.2.data.toList
def encPairs:List (ByteArray×ByteArray)→List UInt8
 | []=>[]
 | p :: l=>encPair p ++ encPairs l
theorem encPairs_app : ∀ (a:List (ByteArray×ByteArray)) (p:ByteArray×ByteArray),encPairs (a ++ [p])=encPairs a ++ encPair p
 | [],p=>by simp [encPairs]
 | q :: a,p=>by rw [List.cons_append,encPairs,encPairs,encPairs_app a p,List.append_assoc]
def partsOf (k:Int):List Nat:=if k=1 then [0,4] else if k=2 then [0,3,4] else if k=3 then [0,3] else if k=4 then [0,1] else if k=5 then [0] else if k=6 then [2] else []
def mayP (e:Ev) (p:Nat):Bool:=if p=0 then namedB e.t else if p=1 then rightS e.c e.ky e.u else if p=2 then namesB e.ns else if p=3 then rowB e.o else rowB e.n
def layP (e:Ev) (p:Nat):List UInt8:=if p=0 then textB e.t.data.toList else if p=1 then textB (encSch e.c e.ky e.u) else if p=2 then numB e.ns.length ++ encPairs e.ns else if p=3 then textB (keyL e.o) else textB (keyL e.n)
def bareE (e:Ev):Ev :=
 ⟨e.k,if e.k=6 then ⟨#[]⟩ else e.t,if e.k=4 then e.c else [],if e.k=4 then e.ky else [],if e.k=4 then e.u else [],
  if e.k=2 ∨ e.k=3 then e.o else [],if e.k=1 ∨ e.k=2 then e.n else [],if e.k=6 then e.ns else []⟩
def rightE (e:Ev):Bool:=decide (1≤e.k∧e.k≤6) && (decide (e=bareE e) && ((partsOf e.k).all (mayP e) && lensB e))
def encE (e:Ev):List UInt8:=numB e.k.toNat ++ (partsOf e.k).flatMap (layP e)
def encER (e:Ev):List UInt8×Int:=if rightE e=true then (encE e,0) else ([],2)
def pPair (s:List UInt8):Option ((ByteArray×ByteArray)×List UInt8):=match rdText s with
 | none=>none
 | some (a,m)=>match rdText (s.drop m) with
   | none=>none
   | some (b,m2)=>some ((⟨a.toArray⟩,⟨b.toArray⟩),(s.drop m).drop m2)
def readP (p:Nat) (e:Ev) (s:List UInt8):Option (Ev×List UInt8) :=
 if p=2 then match pNum 5 s with
  | none=>none
  | some (n,r)=>match rep pPair n r with
    | none=>none
    | some (l,r2)=>some ({ e with ns:=e.ns ++ l },r2)
 else match rdText s with
  | none=>none
  | some (x,m) =>
    if p=0 then some ({ e with t:=⟨x.toArray⟩ },s.drop m)
    else if p=1 then (match decS x with
     | none=>none
     | some (c,k,u)=>some ({ e with c:=c,ky:=k,u:=u },s.drop m))
    else match rdKeys x with
     | none=>none
     | some l=>if p=3 then some ({ e with o:=l },s.drop m) else some ({ e with n:=l },s.drop m)
def readPs:List Nat→Ev→List UInt8→Option (Ev×List UInt8)
 | [],e,s=>some (e,s)
 | p :: l,e,s=>match readP p e s with
   | none=>none
   | some (e',s')=>readPs l e' s'
def pE (s:List UInt8):Option (Ev×List UInt8):=match pNum 7 s with
 | none=>none
 | some (k,r)=>readPs (partsOf k) (evOf k) r
def decE (s:List UInt8):Option Ev:=match pE s with
 | none=>none
 | some (e,_)=>if rightE e=true∧encE e=s then some e else none
def putP (x e:Ev) (p:Nat):Ev:=if p=0 then { e with t:=x.t } else if p=1 then { e with c:=x.c,ky:=x.ky,u:=x.u } else if p=2 then { e with ns:=e.ns ++ x.ns } else if p=3 then { e with o:=x.o } else { e with n:=x.n }
theorem barr (b:ByteArray):(⟨b.data.toList.toArray⟩:ByteArray)=b:=by simp
theorem named_size {b:ByteArray} (h:namedB b=true) : 1≤b.size∧b.size≤24:=by
 unfold namedB at h
 by_cases hb : 1≤b.size∧b.size≤24
 ·exact hb
 ·rw [dif_neg hb] at h;cases h
theorem blen (b:ByteArray):b.data.toList.length=b.size:=rfl
theorem pPair_enc {p:ByteArray×ByteArray} (h1:p.1.size≤1000000) (h2:p.2.size≤1000000) (r:List UInt8):pPair (encPair p ++ r)=some (p,r):=by
 unfold pPair encPair
 rw [List.append_assoc,rdText_enc _ (by rw [blen];exact h1)]
 dsimp only
 rw [List.drop_left,rdText_enc _ (by rw [blen];exact h2)]
 dsimp only
 rw [List.drop_left,barr,barr]
theorem rowB_parts {l:List Val} (h:rowB l=true) : 1≤l.length∧l.length≤8 ∧ ∀ x ∈ l,checkI x=0:=by
 unfold rowB at h
 rw [Bool.and_eq_true,decide_eq_true_eq,List.all_eq_true] at h
 exact ⟨h.1.1,h.1.2,fun x hx=>of_decide_eq_true (h.2 x hx)⟩
theorem namesB_parts {l:List (ByteArray×ByteArray)} (h:namesB l=true) : 1≤l.length∧l.length≤4 ∧ ∀ p ∈ l,namedB p.1=true∧namedB p.2=true:=by
 unfold namesB at h
 rw [Bool.and_eq_true,decide_eq_true_eq,List.all_eq_true] at h
 exact ⟨h.1.1,h.1.2,fun p hp=>by have:=h.2 p hp;unfold nameP at this;rwa [Bool.and_eq_true] at this⟩
theorem rowB_len {l:List Val} (h:rowB l=true) (hw : ∀ x ∈ l,x.Wf):(keyL l).length≤1808:=by
 obtain ⟨-,h8,hc⟩:=rowB_parts h
 have:=keyL_len (l:=l) (fun x hx=>⟨hc x hx,hw x hx⟩)
 omega
theorem readP_enc {x e:Ev} {p:Nat} (h:mayP x p=true) (hw:x.Wf) (hs:(encSch x.c x.ky x.u).length≤1000000 ∨ p ≠ 1) (r:List UInt8):readP p e (layP x p ++ r)=some (putP x e p,r):=by
 unfold mayP at h
 unfold readP layP putP
 by_cases h0:p=0
 ·subst h0
  have:=(named_size h).2
  simp only [↓reduceIte,if_neg (show ¬ (0:Nat)=2 by omega)]
  rw [rdText_enc _ (by rw [blen];omega)]
  dsimp only
  rw [List.drop_left,barr]
 rw [if_neg h0] at h
 by_cases h1:p=1
 ·subst h1
  rw [if_pos rfl] at h
  simp only [↓reduceIte,if_neg (show ¬ (1:Nat)=2 by omega),if_neg (show ¬ (1:Nat)=0 by omega)]
  rw [rdText_enc _ (by rcases hs with h | h;exact h;exact absurd rfl h)]
  dsimp only
  rw [List.drop_left,decS_enc h]
 rw [if_neg h1] at h
 by_cases h2:p=2
 ·subst h2
  rw [if_pos rfl] at h
  obtain ⟨l1,l4,hn⟩:=namesB_parts h
  simp only [↓reduceIte,if_neg (show ¬ (2:Nat)=1 by omega),if_neg (show ¬ (2:Nat)=0 by omega)]
  rw [List.append_assoc,pNum_enc (by omega) (by omega)]
  dsimp only
  rw [rep_enc (enc:=encPair) (encs:=encPairs) rfl (fun _ _=>rfl) (fun p hp r=>pPair_enc (by have:=(named_size (hn p hp).1).2;omega) (by have:=(named_size (hn p hp).2).2;omega) r)]
 rw [if_neg h2] at h
 simp only [if_neg h0,if_neg h1,if_neg h2]
 by_cases h3:p=3
 ·subst h3
  rw [if_pos rfl] at h
  have hwo : ∀ y ∈ x.o,y.Wf:=fun y hy=>hw y (List.mem_append_left _ hy)
  have hl:=rowB_len h hwo
  simp only [↓reduceIte]
  rw [rdText_enc _ (by omega)]
  dsimp only
  rw [rdKeys_enc (fun y hy=>⟨(rowB_parts h).2.2 y hy,hwo y hy⟩) (by omega),List.drop_left]
 rw [if_neg h3] at h
 have hwo : ∀ y ∈ x.n,y.Wf:=fun y hy=>hw y (List.mem_append_right _ hy)
 have hl:=rowB_len h hwo
 simp only [if_neg h3]
 rw [rdText_enc _ (by omega)]
 dsimp only
 rw [rdKeys_enc (fun y hy=>⟨(rowB_parts h).2.2 y hy,hwo y hy⟩) (by omega),List.drop_left]
theorem readPs_enc {x:Ev} (hw:x.Wf) (hs:rightS x.c x.ky x.u=true→(encSch x.c x.ky x.u).length≤1000000) : ∀ (l:List Nat) (e:Ev) (r:List UInt8),l.all (mayP x)=true→readPs l e (l.flatMap (layP x) ++ r)=some (l.foldl (putP x) e,r)
 | [],e,r,h=>rfl
 | p :: l,e,r,h=>by
   rw [List.all_cons,Bool.and_eq_true] at h
   rw [List.flatMap_cons,List.append_assoc,readPs,readP_enc h.1 hw (by
    by_cases h1:p=1
    ·subst h1
     exact .inl (hs (by have:=h.1;unfold mayP at this;simpa using this))
    ·exact .inr h1)]
   exact readPs_enc hw hs l _ _ h.2
theorem rightE_parts {e:Ev} (h:rightE e=true):(1≤e.k∧e.k≤6)∧e=bareE e∧(partsOf e.k).all (mayP e)=true∧(e.k=2→e.o.length=e.n.length):=by
 unfold rightE lensB at h
 simp only [Bool.and_eq_true,decide_eq_true_eq] at h
 exact ⟨h.1,h.2.1,h.2.2.1,h.2.2.2⟩
theorem put_bare (x:Ev) (h : 1≤x.k∧x.k≤6):(partsOf x.k).foldl (putP x) (evOf x.k)=bareE x:=by
 have hc:x.k=1 ∨ x.k=2 ∨ x.k=3 ∨ x.k=4 ∨ x.k=5 ∨ x.k=6:=by omega
 rcases hc with h | h | h | h | h | h <;> (unfold bareE partsOf evOf;rw [h];simp [putP])
theorem encSch_small {cols:List Col} {key:List Int} {uq:List (List Int)} (h:rightS cols key uq=true):(encSch cols key uq).length≤1000:=by
 obtain ⟨h1,h2,h3,h4,h5,h6⟩:=right_small h
 have a1:=encCols_len cols (fun c hc=>⟨(h1 c hc).2.1,(h1 c hc).2.2.2.1,(h1 c hc).2.2.2.2⟩)
 have a2:=encList_len key h4.1 (fun x hx=>(h4.2 x hx).2)
 have a3:=encLists_len uq (fun l hl=>⟨(h6 l hl).1,fun x hx=>((h6 l hl).2 x hx).2⟩)
 have a4:=numB_9 (n:=cols.length) (by omega)
 have a5:=numB_9 (n:=uq.length) (by omega)
 unfold encSch
 simp only [List.length_append]
 omega
theorem decE_enc {x:Ev} (h:rightE x=true) (hw:x.Wf):decE (encE x)=some x:=by
 obtain ⟨hk,hb,hp,hl⟩:=rightE_parts h
 have hn:((x.k.toNat:Nat):Int)=x.k:=Int.toNat_of_nonneg (by omega)
 unfold decE pE
 have:pNum 7 (encE x)=some (x.k.toNat,(partsOf x.k).flatMap (layP x)):=by
  unfold encE
  exact pNum_enc (by omega) (by omega) _
 rw [this]
 dsimp only
 have h2:=readPs_enc hw (fun h=>by have:=encSch_small h;omega) (partsOf x.k) (evOf x.k) [] hp
 rw [List.append_nil] at h2
 rw [hn,h2]
 dsimp only
 rw [put_bare x hk,← hb,if_pos ⟨h,rfl⟩]
end
section
open Go.RowKit Go.Shelf Go.Lib
def eGaveUp:List PanicEntry:=[{ v:=.iface 35 (.int .i64 180),recovered:=false }]
theorem emust_yes (w:World):Calls Tryz.prog 39 #[.bool true] w fun e w'=>e = .returned (.tuple #[])∧w=w':=by
 go_enter Tryz.func39,Tryz.ntmps39
 go_wp2
 go_end0
 exact ⟨rfl,rfl⟩
theorem emust_no (w:World):Calls Tryz.prog 39 #[.bool false] w fun e w'=>e = .panicked eGaveUp∧w=w':=by
 go_enter Tryz.func39,Tryz.ntmps39
 go_wp2
 exact ⟨rfl,rfl,rfl⟩
theorem esome_yes (A:Option Addr) (n c k:Nat) (hk:k≤n) (hc:n≤c) (hm:c≤maxLen) (w:World):Calls Tryz.prog 87 #[.slice A n c,.int .i64 k] w fun e w'=>e = .returned (.slice A k k)∧w=w':=by
 have h1:(k:Int)≤n:=by omega
 have h2:(n:Int)≤c:=by omega
 have h3:(c:Int)≤9223372036854775807:=by unfold maxLen at hm;omega
 have hkc:(k:Int)≤c:=by omega
 go_enter Tryz.func87,Tryz.ntmps87
 go_wp2_with (go_at_call 39;refine (emust_yes _).mono ?_;rintro e w' ⟨rfl,rfl⟩)
 go_ret
 exact ⟨rfl,rfl⟩
def GaveUpE (bt:Nat) (w:World) (e:Ending) (w':World):Prop:=e = .panicked eGaveUp∧w.grownBy w' (some bt)
def GotE (v:Value) (s:List UInt8) (bt:Nat) (w:World) (e:Ending) (w':World):Prop:=e = .returned v∧TapeAt w' bt s∧w.grownBy w' (some bt)
set_option maxRecDepth 100000 in
set_option maxHeartbeats 1000000 in
theorem egotN_yes (bt:Nat) (s:List UInt8) (hs:s.length≤1000000) (n m:Nat) (hr:rdNum s=some (n,m)) (w:World) (h:TapeAt w bt s):Calls Tryz.prog 73 #[.pointer (some ⟨bt,0,none⟩),.func (.func 74) #[] #[]] w (GotE (.int .u64 n) (s.drop m) bt w):=by
 obtain ⟨hm1,hml,-,-⟩:=rdNum_le hr
 obtain ⟨A0,c0,h0,hb⟩:=h.reads
 obtain ⟨A,c,h1,h2,h3,h4,h5⟩:=h
 obtain ⟨rfl,rfl⟩:A0=A∧c0=c:=by rw [h1] at h0;cases h0;exact ⟨rfl,rfl⟩
 have HN:=Lib.hid (oReadNumber_any _ s hs w hb)
 rw [hr] at HN
 unfold numV at HN
 have HS:=Lib.hid (fun V=>esome_yes A0 s.length c0 m hml h3 h4 V)
 have hI1:(m:Int)≤s.length:=by omega
 have hI2:(s.length:Int)≤c0:=by omega
 have hI3:(c0:Int)≤9223372036854775807:=by unfold maxLen at h4;omega
 have hlt:bt<w.heap.size:=World.block_lt_of_cell? (w:=w) (a:=⟨bt,0,none⟩) h1
 have hdl:(s.drop m).length=s.length - m:=List.length_drop
 clear hr h0 hb
 cases A0 with
 | none =>
   have hs0:s=[]:=by
    rcases Nat.eq_zero_or_pos s.length with h0 | h0
    ·exact List.eq_nil_of_length_eq_zero h0
    ·obtain ⟨ad,e,-⟩:=h5.2 h0;cases e
   subst hs0
   exfalso
   simp only [List.length_nil] at hml
   omega
 | some ad =>
   have hcut:=h5.cut (k:=m) hml h3
   rw [Nat.mul_one,← List.map_drop] at hcut
   by_cases hkc:c0=m
   ·rw [if_pos hkc] at hcut
    have hlen:s.length=m:=by omega
    have hd0:s.drop m=[]:=List.drop_eq_nil_of_le (by omega)
    have HFIN:Hid (∀ V,Bel w V→GotE (.int .u64 n) (s.drop m) bt w (.returned (.int .u64 n)) (V.setCell ⟨bt,0,none⟩ (.slice (some ad) 0 0))):=Lib.hid (fun V hV =>
     have hc1:=hV.c h1
     have hf1:=hV.f h1 h2
     ⟨rfl,⟨some ad,0,by rw [hd0];go_simp,by go_simp,by rw [hd0];exact Nat.le_refl _,Nat.zero_le _,by rw [hd0];exact ⟨rfl,fun h=>by simp at h⟩⟩,grown_trans (hV.grown _) (grown_setCell _ _ _)⟩)
    rw [hlen] at h1 HS HN
    clear h5 hdl hml h3 hI1 hI2 hcut hd0 hlen
    subst hkc
    go_enter Tryz.func73,Tryz.ntmps73
    go_wp2_with fail
    refine HN.out.mono ?_
    rintro e w1 ⟨rfl,hb1⟩
    have HB1:=Lib.hid hb1
    have hc1:=hb1.c h1
    have hf1:=hb1.f h1 h2
    clear hb1
    go_wp2_with (first | (go_at_call 39;refine (emust_yes _).mono ?_;rintro e w' ⟨rfl,rfl⟩) | (go_at_call 87;refine (HS.out _).mono ?_;rintro e w' ⟨rfl,rfl⟩))
    go_ret
    exact HFIN.out _ HB1.out
   ·rw [if_neg hkc,← hdl] at hcut
    have HFIN:Hid (∀ V,Bel w V→GotE (.int .u64 n) (s.drop m) bt w (.returned (.int .u64 n)) (V.setCell ⟨bt,0,none⟩ (.slice (some (ad.add m)) (s.length - m) (c0 - m)))):=Lib.hid (fun V hV =>
     have hc1:=hV.c h1
     have hf1:=hV.f h1 h2
     have hg:=grown_setCell V ⟨bt,0,none⟩ (.slice (some (ad.add m)) (s.length - m) (c0 - m))
     ⟨rfl,⟨some (ad.add m),c0 - m,by rw [hdl];go_simp,by go_simp,by rw [hdl];omega,by omega,(hcut.keep fun p hp=>hV.cell (by omega)).grown hg (Nat.le_of_lt (Nat.lt_of_lt_of_le hlt hV.size)) (fun g e=>by cases e;exact Nat.le_refl _)⟩,grown_trans (hV.grown _) hg⟩)
    have hI4:((s.length:Int) - m).toNat=s.length - m:=by omega
    have hI5:((c0:Int) - m).toNat=c0 - m:=by omega
    clear h5 hdl hml h3 hcut
    go_enter Tryz.func73,Tryz.ntmps73
    go_wp2_with fail
    refine HN.out.mono ?_
    rintro e w1 ⟨rfl,hb1⟩
    have HB1:=Lib.hid hb1
    have hc1:=hb1.c h1
    have hf1:=hb1.f h1 h2
    clear hb1
    go_wp2_with (first | (go_at_call 39;refine (emust_yes _).mono ?_;rintro e w' ⟨rfl,rfl⟩) | (go_at_call 87;refine (HS.out _).mono ?_;rintro e w' ⟨rfl,rfl⟩))
    go_ret
    exact HFIN.out _ HB1.out
set_option maxRecDepth 100000 in
theorem egotN_no (bt:Nat) (s:List UInt8) (hs:s.length≤1000000) (hr:rdNum s=none) (w:World) (h:TapeAt w bt s):Calls Tryz.prog 73 #[.pointer (some ⟨bt,0,none⟩),.func (.func 74) #[] #[]] w (GaveUpE bt w):=by
 obtain ⟨A,c,h1,hb⟩:=h.reads
 have HN:=Lib.hid (oReadNumber_any _ s hs w hb)
 rw [hr] at HN
 clear hr h hb hs
 unfold numV at HN
 go_enter Tryz.func73,Tryz.ntmps73
 go_wp2_with fail
 refine HN.out.mono ?_
 rintro e w1 ⟨rfl,hb1⟩
 go_wp2_with (go_at_call 39;refine (emust_no _).mono ?_;rintro e w' ⟨rfl,rfl⟩)
 exact ⟨rfl,rfl,hb1.grown _⟩
set_option maxRecDepth 100000 in
set_option maxHeartbeats 1000000 in
theorem egotS_yes (bt:Nat) (s:List UInt8) (hs:s.length≤1000000) (x:List UInt8) (m:Nat) (hr:rdText s=some (x,m)) (w:World) (h:TapeAt w bt s):Calls Tryz.prog 51 #[.pointer (some ⟨bt,0,none⟩),.func (.func 52) #[] #[]] w (GotE (strV x) (s.drop m) bt w):=by
 obtain ⟨hml,hm1,-,-⟩:=rdText_back hr
 obtain ⟨A0,c0,h0,hb⟩:=h.reads
 obtain ⟨A,c,h1,h2,h3,h4,h5⟩:=h
 obtain ⟨rfl,rfl⟩:A0=A∧c0=c:=by rw [h1] at h0;cases h0;exact ⟨rfl,rfl⟩
 have HN:=Lib.hid (oReadText_any _ s hs w hb)
 rw [hr] at HN
 unfold textV at HN
 unfold strV at *
 have HS:=Lib.hid (fun V=>esome_yes A0 s.length c0 m hml h3 h4 V)
 have hI1:(m:Int)≤s.length:=by omega
 have hI2:(s.length:Int)≤c0:=by omega
 have hI3:(c0:Int)≤9223372036854775807:=by unfold maxLen at h4;omega
 have hlt:bt<w.heap.size:=World.block_lt_of_cell? (w:=w) (a:=⟨bt,0,none⟩) h1
 have hdl:(s.drop m).length=s.length - m:=List.length_drop
 clear hr h0 hb
 cases A0 with
 | none =>
   have hs0:s=[]:=by
    rcases Nat.eq_zero_or_pos s.length with h0 | h0
    ·exact List.eq_nil_of_length_eq_zero h0
    ·obtain ⟨ad,e,-⟩:=h5.2 h0;cases e
   subst hs0
   exfalso
   simp only [List.length_nil] at hml
   omega
 | some ad =>
   have hcut:=h5.cut (k:=m) hml h3
   rw [Nat.mul_one,← List.map_drop] at hcut
   by_cases hkc:c0=m
   ·rw [if_pos hkc] at hcut
    have hlen:s.length=m:=by omega
    have hd0:s.drop m=[]:=List.drop_eq_nil_of_le (by omega)
    have HFIN:Hid (∀ V,Bel w V→GotE (strV x) (s.drop m) bt w (.returned (strV x)) (V.setCell ⟨bt,0,none⟩ (.slice (some ad) 0 0))):=Lib.hid (fun V hV =>
     have hc1:=hV.c h1
     have hf1:=hV.f h1 h2
     ⟨rfl,⟨some ad,0,by rw [hd0];go_simp,by go_simp,by rw [hd0];exact Nat.le_refl _,Nat.zero_le _,by rw [hd0];exact ⟨rfl,fun h=>by simp at h⟩⟩,grown_trans (hV.grown _) (grown_setCell _ _ _)⟩)
    unfold strV at HFIN
    rw [hlen] at h1 HS HN
    clear h5 hdl hml h3 hI1 hI2 hcut hd0 hlen
    subst hkc
    go_enter Tryz.func51,Tryz.ntmps51
    go_wp2_with fail
    refine HN.out.mono ?_
    rintro e w1 ⟨rfl,hb1⟩
    have HB1:=Lib.hid hb1
    have hc1:=hb1.c h1
    have hf1:=hb1.f h1 h2
    clear hb1
    go_wp2_with (first | (go_at_call 39;refine (emust_yes _).mono ?_;rintro e w' ⟨rfl,rfl⟩) | (go_at_call 87;refine (HS.out _).mono ?_;rintro e w' ⟨rfl,rfl⟩))
    go_ret
    exact HFIN.out _ HB1.out
   ·rw [if_neg hkc,← hdl] at hcut
    have HFIN:Hid (∀ V,Bel w V→GotE (strV x) (s.drop m) bt w (.returned (strV x)) (V.setCell ⟨bt,0,none⟩ (.slice (some (ad.add m)) (s.length - m) (c0 - m)))):=Lib.hid (fun V hV =>
     have hc1:=hV.c h1
     have hf1:=hV.f h1 h2
     have hg:=grown_setCell V ⟨bt,0,none⟩ (.slice (some (ad.add m)) (s.length - m) (c0 - m))
     ⟨rfl,⟨some (ad.add m),c0 - m,by rw [hdl];go_simp,by go_simp,by rw [hdl];omega,by omega,(hcut.keep fun p hp=>hV.cell (by omega)).grown hg (Nat.le_of_lt (Nat.lt_of_lt_of_le hlt hV.size)) (fun g e=>by cases e;exact Nat.le_refl _)⟩,grown_trans (hV.grown _) hg⟩)
    unfold strV at HFIN
    have hI4:((s.length:Int) - m).toNat=s.length - m:=by omega
    have hI5:((c0:Int) - m).toNat=c0 - m:=by omega
    clear h5 hdl hml h3 hcut
    go_enter Tryz.func51,Tryz.ntmps51
    go_wp2_with fail
    refine HN.out.mono ?_
    rintro e w1 ⟨rfl,hb1⟩
    have HB1:=Lib.hid hb1
    have hc1:=hb1.c h1
    have hf1:=hb1.f h1 h2
    clear hb1
    go_wp2_with (first | (go_at_call 39;refine (emust_yes _).mono ?_;rintro e w' ⟨rfl,rfl⟩) | (go_at_call 87;refine (HS.out _).mono ?_;rintro e w' ⟨rfl,rfl⟩))
    go_ret
    exact HFIN.out _ HB1.out
set_option maxRecDepth 100000 in
theorem egotS_no (bt:Nat) (s:List UInt8) (hs:s.length≤1000000) (hr:rdText s=none) (w:World) (h:TapeAt w bt s):Calls Tryz.prog 51 #[.pointer (some ⟨bt,0,none⟩),.func (.func 52) #[] #[]] w (GaveUpE bt w):=by
 obtain ⟨A,c,h1,hb⟩:=h.reads
 have HN:=Lib.hid (oReadText_any _ s hs w hb)
 rw [hr] at HN
 clear hr h hb hs
 unfold textV at HN
 go_enter Tryz.func51,Tryz.ntmps51
 go_wp2_with fail
 refine HN.out.mono ?_
 rintro e w1 ⟨rfl,hb1⟩
 go_wp2_with (go_at_call 39;refine (emust_no _).mono ?_;rintro e w' ⟨rfl,rfl⟩)
 exact ⟨rfl,rfl,hb1.grown _⟩
def GivesNumE (o:Option (Nat×List UInt8)) (bt:Nat) (w:World) (e:Ending) (w':World):Prop:=match o with
 | some (n,r)=>e = .returned (.int .i64 n)∧TapeAt w' bt r∧w.grownBy w' (some bt)
 | none=>GaveUpE bt w e w'
set_option maxRecDepth 100000 in
theorem enumber_any (bt:Nat) (s:List UInt8) (hs:s.length≤1000000) (b:Nat) (hb:b≤1000) (w:World) (h:TapeAt w bt s):Calls Tryz.prog 38 #[.pointer (some ⟨bt,0,none⟩),.int .u64 b] w (GivesNumE (pNum b s) bt w):=by
 unfold pNum
 cases hr:rdNum s with
 | none =>
   have HG:=Lib.hid (egotN_no bt s hs hr w h)
   clear hr h hs
   go_enter Tryz.func38,Tryz.ntmps38
   go_wp2_with fail
   refine HG.out.mono ?_
   rintro e w1 ⟨rfl,hg1⟩
   exact ⟨rfl,rfl,hg1⟩
 | some q =>
   obtain ⟨n,m⟩:=q
   have HG:=Lib.hid (egotN_yes bt s hs n m hr w h)
   clear hr h hs
   dsimp only
   by_cases hn:n<b
   ·rw [if_pos hn]
    have hnI:(n:Int)<b:=by omega
    have hcv:IntKind.i64.wrap (n:Int)=(n:Int):=by simp only [IntKind.wrap,IntKind.bits,IntKind.signed];simp;omega
    go_enter Tryz.func38,Tryz.ntmps38
    go_wp2_with fail
    refine HG.out.mono ?_
    rintro e w1 ⟨rfl,ht1,hg1⟩
    go_wp2_with (go_at_call 39;refine (emust_yes _).mono ?_;rintro e w' ⟨rfl,rfl⟩)
    go_ret
    exact ⟨rfl,ht1,hg1⟩
   ·rw [if_neg hn]
    have hnb:decide ((n:Int)<b)=false:=by simp;omega
    have hnc:decide (n<b)=false:=by simp;omega
    go_enter Tryz.func38,Tryz.ntmps38
    go_wp2_with fail
    refine HG.out.mono ?_
    rintro e w1 ⟨rfl,ht1,hg1⟩
    go_wp2_with (go_at_call 39;refine (emust_no _).mono ?_;rintro e w' ⟨rfl,rfl⟩)
    exact ⟨rfl,rfl,hg1⟩
theorem etext_any (x:ByteArray) (hx:x.size≤1000000) (w:World):Calls Tryz.prog 53 #[.string x] w (GivesB (textB x.data.toList) w):=by
 have HT:=Lib.hid (oText_any x hx w)
 go_enter Tryz.func53,Tryz.ntmps53
 go_wp2_with fail
 refine HT.out.mono ?_
 rintro e w1 ⟨A,c,rfl,hr,hb⟩
 go_wp2
 go_ret
 exact ⟨A,c,rfl,hr,hb⟩
end
section
open Go.RowKit Go.Shelf Go.Lib
attribute [local go_sem] Oper.semAt_some
def pairV (p:ByteArray×ByteArray):Value:=.agg #[.string p.1,.string p.2]
def PairsAt (w:World) (v:Value) (l:List (ByteArray×ByteArray)):Prop:=∃ A c,v = .slice A l.length c∧l.length≤c∧c≤maxLen∧(0<l.length → ∃ b off,A=some ⟨b,off,none⟩ ∧ ∀ i (x:ByteArray×ByteArray),l[i]? = some x →
 w.cell? ⟨b,off+i * 2,none⟩=some (.string x.1)∧w.cell? ⟨b,off+i * 2+1,none⟩=some (.string x.2))
theorem PairsAt.bel {w w':World} {v:Value} {l:List (ByteArray×ByteArray)} (h:PairsAt w v l) (hb:Bel w w'):PairsAt w' v l:=by
 obtain ⟨A,c,e,hc,hm,h⟩:=h
 exact ⟨A,c,e,hc,hm,fun hl=>by obtain ⟨b,off,ea,hi⟩:=h hl;exact ⟨b,off,ea,fun i x hx=>⟨hb.c (hi i x hx).1,hb.c (hi i x hx).2⟩⟩⟩
def evCells (k:Int) (t:ByteArray) (vc vk vu vo vn vs:Value):Array Value:=#[.int .i64 k,.string t,vc,vk,vu,vo,vn,vs]
def evV (k:Int) (t:ByteArray) (vc vk vu vo vn vs:Value):Value:=.agg #[.int .i64 k,.string t,vc,vk,vu,vo,vn,vs]
structure EvAt (w:World) (vc vk vu vo vn vs:Value) (e:Ev):Prop where
 c:ColsAt w vc e.c
 ky:IntsAt w vk e.ky
 u:ListsAt w vu e.u
 o:ValsAt w vo e.o
 n:ValsAt w vn e.n
 ns:PairsAt w vs e.ns
theorem EvAt.bel {w w':World} {vc vk vu vo vn vs:Value} {e:Ev} (h:EvAt w vc vk vu vo vn vs e) (hb:Bel w w'):EvAt w' vc vk vu vo vn vs e :=
 ⟨h.c.bel hb,h.ky.bel hb,h.u.bel hb,h.o.bel hb,h.n.bel hb,h.ns.bel hb⟩
theorem EvAt.opened {w:World} {vc vk vu vo vn vs:Value} {e:Ev} (h:EvAt w vc vk vu vo vn vs e) : ∃ Ac cc Ak ck Au cu Ao co An cn As cs,
  vc = .slice Ac e.c.length cc∧vk = .slice Ak e.ky.length ck∧vu = .slice Au e.u.length cu∧vo = .slice Ao e.o.length co∧vn = .slice An e.n.length cn∧vs = .slice As e.ns.length cs:=by
 obtain ⟨Ac,cc,h1,-⟩:=h.c
 obtain ⟨Ak,ck,h2,-⟩:=h.ky
 obtain ⟨Au,cu,h3,-⟩:=h.u
 obtain ⟨Ao,co,h4,-⟩:=h.o
 obtain ⟨An,cn,h5,-⟩:=h.n
 obtain ⟨As,cs,h6,-⟩:=h.ns
 exact ⟨Ac,cc,Ak,ck,Au,cu,Ao,co,An,cn,As,cs,h1,h2,h3,h4,h5,h6⟩
set_option maxHeartbeats 2000000 in
theorem slIndexFuncVal_any (g:Nat) (lb:Array Value) (eg : ∀ args w,(callFunc g args).run Tryz.prog w = .ok (.enter g args) w) (p:Val→Bool) (v:Value) (l:List Val) (w:World) (h:ValsAt w v l)
  (hp : ∀ W,Bel w W → ∀ x ∈ l,Calls Tryz.prog g (#[x.v] ++ lb) W fun e w'=>e = .returned (.bool (p x))∧Bel W w') :
  Calls Tryz.prog 123 #[v,.func (.func g) #[] lb] w fun e w'=>(∃ i:Int,e = .returned (.int .i64 i)∧(0≤i ↔ l.any p=true))∧Bel w w':=by
 have HV:=Lib.hid h
 obtain ⟨A,c,rfl,hcl,hm,hr⟩:=h
 have HP:=Lib.hid hp
 have hlI:(l.length:Int)≤9223372036854775807:=by unfold maxLen at hm;omega
 have HR:=Lib.hid hr
 clear hr hm hp
 go_enter Tryz.func123,Tryz.ntmps123
 go_wp2
 go_loopw [8] (fun i wr=>∃ k:Nat,k≤l.length∧i = .int .i64 k∧Hid (Bel w wr)∧Hid ((l.take k).any p=false)) (fun i _=>l.length - (intOf i).toNat)
 case atStart=>exact ⟨0,Nat.zero_le _,rfl,Bel.refl w,by show _=_;simp⟩
 case round =>
  obtain ⟨k,hk,rfl,HB,HT⟩:=hrel
  by_cases hlt:k<l.length
  ·obtain ⟨y,hy⟩ : ∃ y,l[k]? = some y:=⟨_,List.getElem?_eq_getElem hlt⟩
   obtain ⟨b,off,rfl,hi⟩:=HR.out (by omega)
   obtain ⟨q0,q1,q2,q3⟩:=hi k y hy
   have hc0:=HB.out.c q0
   have hc1:=HB.out.c q1
   have hc2:=HB.out.c q2
   have hc3:=HB.out.c q3
   have hkI:(k:Int)<l.length:=by omega
   have hmem:y ∈ l:=List.mem_of_getElem? hy
   have HC:=Lib.hid (HP.out wr HB.out y hmem)
   have HNX:Hid (p y=false→(l.take (k+1)).any p=false):=fun e=>by
    rw [List.take_add_one,hy,List.any_append,HT.out]
    simp [e]
   have HYES:Hid (p y=true→l.any p=true):=fun e=>List.any_eq_true.2 ⟨y,hmem,e⟩
   clear hi hy hmem q0 q1 q2 q3
   cases hpy:p y with
   | true =>
     rw [hpy] at HC HYES
     clear hpy
     go_wp2_with (go_at_fn g;refine HC.out.mono ?_;rintro e w4 ⟨rfl,hb4⟩)
     go_ret
     exact ⟨⟨(k:Int),rfl,by constructor <;> intro _ <;> first | exact HYES.out rfl | exact HYES.out trivial | omega⟩,HB.out.then_ hb4⟩
   | false =>
     rw [hpy] at HC HNX
     clear hpy
     go_wp2_with (go_at_fn g;refine HC.out.mono ?_;rintro e w4 ⟨rfl,hb4⟩)
     go_roundw
     case rel=>exact ⟨k+1,by omega,by go_num,HB.out.then_ hb4,by first | exact HNX.out rfl | exact HNX.out trivial⟩
     case measure=>simp [intOf];omega
  ·obtain rfl:k=l.length:=by omega
   have HN:Hid (l.any p=false):=by show _=_;have:=HT.out;rwa [List.take_length] at this
   clear HT hlt hk
   go_wp2
   go_ret
   exact ⟨⟨-1,rfl,by constructor <;> intro h <;> first | (rw [HN.out] at h;cases h) | (exfalso;omega)⟩,HB.out⟩
theorem slContainsFuncVal_any (g:Nat) (lb:Array Value) (eg : ∀ args w,(callFunc g args).run Tryz.prog w = .ok (.enter g args) w) (p:Val→Bool) (v:Value) (l:List Val) (w:World) (h:ValsAt w v l)
  (hp : ∀ W,Bel w W → ∀ x ∈ l,Calls Tryz.prog g (#[x.v] ++ lb) W fun e w'=>e = .returned (.bool (p x))∧Bel W w') :
  Calls Tryz.prog 92 #[v,.func (.func g) #[] lb] w fun e w'=>e = .returned (.bool (l.any p))∧Bel w w':=by
 have HI:=Lib.hid (slIndexFuncVal_any g lb eg p v l w h hp)
 obtain ⟨A,c,rfl,-⟩:=h
 obtain ⟨R,hR⟩ : ∃ R,R=l.any p:=⟨_,rfl⟩
 rw [← hR]
 have HR:=Lib.hid hR
 clear hR hp
 go_enter Tryz.func92,Tryz.ntmps92
 go_wp2_with fail
 refine HI.out.mono ?_
 rintro e w' ⟨⟨i,rfl,hi⟩,hb⟩
 have hd:l.any p=decide (0≤i):=by cases h:l.any p <;> simp [h] at hi ⊢ <;> omega
 have HRD:Hid (R=decide (0≤i)):=by show _=_;rw [HR.out,hd]
 have HB:=Lib.hid hb
 clear hi hd HI hb
 go_wp2
 go_ret
 exact ⟨by rw [HRD.out];rfl,HB.out⟩
set_option maxHeartbeats 2000000 in
theorem slIndexFuncPair_any (g:Nat) (lb:Array Value) (eg : ∀ args w,(callFunc g args).run Tryz.prog w = .ok (.enter g args) w) (p:ByteArray×ByteArray→Bool) (v:Value) (l:List (ByteArray×ByteArray)) (w:World) (h:PairsAt w v l)
  (hp : ∀ W,Bel w W → ∀ x ∈ l,Calls Tryz.prog g (#[pairV x] ++ lb) W fun e w'=>e = .returned (.bool (p x))∧Bel W w') :
  Calls Tryz.prog 138 #[v,.func (.func g) #[] lb] w fun e w'=>(∃ i:Int,e = .returned (.int .i64 i)∧(0≤i ↔ l.any p=true))∧Bel w w':=by
 have HV:=Lib.hid h
 obtain ⟨A,c,rfl,hcl,hm,hr⟩:=h
 have HP:=Lib.hid hp
 have hlI:(l.length:Int)≤9223372036854775807:=by unfold maxLen at hm;omega
 have HR:=Lib.hid hr
 clear hr hm hp
 go_enter Tryz.func138,Tryz.ntmps138
 go_wp2
 go_loopw [8] (fun i wr=>∃ k:Nat,k≤l.length∧i = .int .i64 k∧Hid (Bel w wr)∧Hid ((l.take k).any p=false)) (fun i _=>l.length - (intOf i).toNat)
 case atStart=>exact ⟨0,Nat.zero_le _,rfl,Bel.refl w,by show _=_;simp⟩
 case round =>
  obtain ⟨k,hk,rfl,HB,HT⟩:=hrel
  by_cases hlt:k<l.length
  ·obtain ⟨y,hy⟩ : ∃ y,l[k]? = some y:=⟨_,List.getElem?_eq_getElem hlt⟩
   obtain ⟨b,off,rfl,hi⟩:=HR.out (by omega)
   obtain ⟨q0,q1⟩:=hi k y hy
   have hc0:=HB.out.c q0
   have hc1:=HB.out.c q1
   have hkI:(k:Int)<l.length:=by omega
   have hmem:y ∈ l:=List.mem_of_getElem? hy
   have HC:=Lib.hid (HP.out wr HB.out y hmem)
   have HNX:Hid (p y=false→(l.take (k+1)).any p=false):=fun e=>by
    rw [List.take_add_one,hy,List.any_append,HT.out]
    simp [e]
   have HYES:Hid (p y=true→l.any p=true):=fun e=>List.any_eq_true.2 ⟨y,hmem,e⟩
   clear hi hy hmem q0 q1
   cases hpy:p y with
   | true =>
     rw [hpy] at HC HYES
     clear hpy
     go_wp2_with (go_at_fn g;refine HC.out.mono ?_;rintro e w4 ⟨rfl,hb4⟩)
     go_ret
     exact ⟨⟨(k:Int),rfl,by constructor <;> intro _ <;> first | exact HYES.out rfl | exact HYES.out trivial | omega⟩,HB.out.then_ hb4⟩
   | false =>
     rw [hpy] at HC HNX
     clear hpy
     go_wp2_with (go_at_fn g;refine HC.out.mono ?_;rintro e w4 ⟨rfl,hb4⟩)
     go_roundw
     case rel=>exact ⟨k+1,by omega,by go_num,HB.out.then_ hb4,by first | exact HNX.out rfl | exact HNX.out trivial⟩
     case measure=>simp [intOf];omega
  ·obtain rfl:k=l.length:=by omega
   have HN:Hid (l.any p=false):=by show _=_;have:=HT.out;rwa [List.take_length] at this
   clear HT hlt hk
   go_wp2
   go_ret
   exact ⟨⟨-1,rfl,by constructor <;> intro h <;> first | (rw [HN.out] at h;cases h) | (exfalso;omega)⟩,HB.out⟩
theorem slContainsFuncPair_any (g:Nat) (lb:Array Value) (eg : ∀ args w,(callFunc g args).run Tryz.prog w = .ok (.enter g args) w) (p:ByteArray×ByteArray→Bool) (v:Value) (l:List (ByteArray×ByteArray)) (w:World) (h:PairsAt w v l)
  (hp : ∀ W,Bel w W → ∀ x ∈ l,Calls Tryz.prog g (#[pairV x] ++ lb) W fun e w'=>e = .returned (.bool (p x))∧Bel W w') :
  Calls Tryz.prog 110 #[v,.func (.func g) #[] lb] w fun e w'=>e = .returned (.bool (l.any p))∧Bel w w':=by
 have HI:=Lib.hid (slIndexFuncPair_any g lb eg p v l w h hp)
 obtain ⟨A,c,rfl,-⟩:=h
 obtain ⟨R,hR⟩ : ∃ R,R=l.any p:=⟨_,rfl⟩
 rw [← hR]
 have HR:=Lib.hid hR
 clear hR hp
 go_enter Tryz.func110,Tryz.ntmps110
 go_wp2_with fail
 refine HI.out.mono ?_
 rintro e w' ⟨⟨i,rfl,hi⟩,hb⟩
 have hd:l.any p=decide (0≤i):=by cases h:l.any p <;> simp [h] at hi ⊢ <;> omega
 have HRD:Hid (R=decide (0≤i)):=by show _=_;rw [HR.out,hd]
 have HB:=Lib.hid hb
 clear hi hd HI hb
 go_wp2
 go_ret
 exact ⟨by rw [HRD.out];rfl,HB.out⟩
theorem enamed_any (s:ByteArray) (w:World) (hg:ErrType w):Calls Tryz.prog 100 #[.string s] w fun e w'=>e = .returned (.bool (namedB s))∧Bel w w':=by
 have HF:=Lib.hid (scFits_any ⟨s,3,0,true⟩ ⟨0,0,0,⟨#[]⟩⟩ ⟨by decide,by decide,by decide,by decide⟩ w hg)
 have hr:rightB ⟨s,3,0,true⟩=namedB s:=by
  unfold rightB sizeB
  cases namedB s <;> rfl
 have hf:fitsI ⟨s,3,0,true⟩ ⟨0,0,0,⟨#[]⟩⟩=if namedB s=true then 0 else 2:=by
  unfold fitsI
  rw [hr]
  cases namedB s
  ·rfl
  ·rw [if_neg (by simp),if_neg (by decide +kernel),if_pos rfl,if_pos rfl]
   rfl
 rw [hf] at HF
 clear hr hf
 unfold Col.v Val.v at HF
 dsimp only at HF
 cases hn:namedB s
 ·rw [hn,if_neg (by simp)] at HF
  go_enter Tryz.func100,Tryz.ntmps100
  go_wp2_with fail
  refine HF.out.mono ?_
  rintro e w1 ⟨rfl,hb1⟩
  go_wp2
  go_ret
  exact ⟨rfl,hb1⟩
 ·rw [hn,if_pos rfl] at HF
  go_enter Tryz.func100,Tryz.ntmps100
  go_wp2_with fail
  refine HF.out.mono ?_
  rintro e w1 ⟨rfl,hb1⟩
  go_wp2
  go_ret
  exact ⟨rfl,hb1⟩
end
end Go.Proofs.YtnajjhgbombboaaGreatDoor
