/-
  Texts behind the statement: part 1.
-/
import Derived.Deep.RegionHeld
import Derived.WalkKit
import Derived.Test.YtnajjhgbombboaaGreatDoorRows
import Derived.WalkSpells
import Derived.WalkLawsBesides
import Derived.Deep.QuietTactic
import Derived.Deep.Draws
import Derived.BigQuiet
import Derived.Lib.Hide
import Derived.ScopeJumps
import Derived.WalkMore
import Derived.ProofKit
import Derived.OpenShut
import Derived.Carry
import Derived.JoinedCond
import Derived.Lib.SmallJoins
import Derived.Deep.Slices
import Derived.Deep.Fields
import Derived.RangeFuncNested
import Derived.RangeFuncBound
import Derived.RangeFuncCalls
import Derived.RangeFuncLeaves
import Derived.Shelf.Abstract
import Derived.Shelf.RegionOpen
import Derived.OwnWalkIn
import Derived.TacticsInMore
import Derived.LoopNIn
import Derived.LoopIn
import Derived.Below
import Derived.Laws.OwnMore
import Derived.Deep.AppendLies
import Derived.Laws.Rows
import Derived.Maps.AppendAt
import Derived.RegionTactic
import Derived.OwnWalk
import Derived.Maps.RangeRun
set_option linter.unusedVariables false
set_option linter.unusedSimpArgs false
namespace Go.Proofs.YtnajjhgbombboaaGreatDoor
section
theorem tkp0 (a:Act) (d:Tmp) (v:Value):a.put (some d) v = { a with tmps:=a.tmps.setIfInBounds d v }:=rfl
theorem tkp1 (a:Act) (v:Value):a.put none v=a:=rfl
theorem tkp2 {α : Type} {xs:List α} {i:Nat} (h:i<xs.toArray.size):xs.toArray[i]=xs[i]'(by simpa using h):=List.getElem_toArray h
theorem tkp3 {α : Type} {a : α} {xs:List α} {i:Nat} (h:i+1<(a :: xs).length):(a :: xs)[i+1]=xs[i]'(by simpa using h):=rfl
theorem tkp4 {α : Type} {a : α} {xs:List α} (h : 0<(a :: xs).length):(a :: xs)[0]=a:=rfl
theorem tkp5 {α : Type} (xs:List α) (i:Nat) (a : α):xs.toArray.setIfInBounds i a=(xs.set i a).toArray:=List.setIfInBounds_toArray xs i a
theorem tkp6 {α : Type} (x y : α) (xs:List α):(x :: xs).set 0 y=y :: xs:=rfl
theorem tkp7 {α : Type} (x y : α) (i:Nat) (xs:List α):(x :: xs).set (i+1) y=x :: xs.set i y:=rfl
section
variable {P:Program} {ops:Array Oper} {Q:Exit→Act→World→Prop} {md:Region.Mode} {S:World→Prop}
def tkB (md:Region.Mode) (ops:Array Oper) (listed:Array Bool) (i:Nat) (oi:Oper) (a:Act) (b:Bool):Bool :=
 Region.noSelect ops && (Region.free md ops listed i && ((Region.ready md ops listed).contains i && Region.wanted oi (yielded ops a.tmps) == b))
theorem tk (i:Nat) {oi:Oper} {v:Value} {fuel:Nat} {listed l':Array Bool} {a a':Act} {w:World} (h:wpAnyH P md ops Q S fuel l' a' w)
 (hi:ops[i]? = some oi:=by exact rfl)
 (hs:tkB md ops listed i oi a true=true:=by kernel_rfl)
 (hy : ∀ w,S w→(execOp a.eval oi).run P w = .ok (.value v) w:=by (intro w h;(try dsimp only at h);go_simp;try with_reducible rfl))
 (hQ : ∀ c a w,Q (.panic c) (a.put oi.dst v) w→Q (.panic c) a w:=by exact fun _ _ _ h=>h)
 (hS:S w:=by assumption)
 (ha:a.put oi.dst v=a':=by first | (simp only [tkp0,tkp1,tkp2,tkp3,tkp4,tkp5,tkp6,tkp7];exact rfl) | exact rfl)
 (hl:listed.setIfInBounds i true=l':=by first | (simp only [tkp5,tkp6,tkp7];exact rfl) | exact rfl):wpAnyH P md ops Q S (fuel+1) listed a w:=by
 subst ha hl
 unfold tkB at hs
 simp only [Bool.and_eq_true,beq_iff_eq] at hs
 exact wpAnyH_take hi hs.1 hs.2.1 hs.2.2.1 hQ (Or.inl ⟨hs.2.2.2,hy⟩) hS h
theorem tn (i:Nat) {oi:Oper} {fuel:Nat} {listed l':Array Bool} {a a':Act} {w:World} (h:wpAnyH P md ops Q S fuel l' a' w)
 (hi:ops[i]? = some oi:=by exact rfl)
 (hs:tkB md ops listed i oi a false=true:=by kernel_rfl)
 (hQ : ∀ c a w,Q (.panic c) (a.put oi.dst undef) w→Q (.panic c) a w:=by exact fun _ _ _ h=>h)
 (hS:S w:=by assumption)
 (ha:a.put oi.dst undef=a':=by first | (simp only [tkp0,tkp1,tkp2,tkp3,tkp4,tkp5,tkp6,tkp7];exact rfl) | exact rfl)
 (hl:listed.setIfInBounds i true=l':=by first | (simp only [tkp5,tkp6,tkp7];exact rfl) | exact rfl):wpAnyH P md ops Q S (fuel+1) listed a w:=by
 subst ha hl
 unfold tkB at hs
 simp only [Bool.and_eq_true,beq_iff_eq] at hs
 exact wpAnyH_take hi hs.1 hs.2.1 hs.2.2.1 hQ (Or.inr ⟨hs.2.2.2,rfl⟩) hS h
theorem rd1 (i:Nat) {fuel:Nat} {listed l':Array Bool} {a:Act} {w:World} {o:Oper}
 (h : ∀ K:Act→World→Prop,Shut (∀ a w,S w→(S w→wpAnyH P md ops Q S fuel l' a w)→K a w)→if Region.wanted o (yielded ops a.tmps)=true then Oper.wp P o a w K Q else K (a.put o.dst undef) w)
 (ho:ops[i]? = some o:=by exact rfl)
 (hr:Region.ready md ops listed=[i]:=by kernel_rfl)
 (hl:listed.setIfInBounds i true=l':=by first | (simp only [tkp5,tkp6,tkp7];exact rfl) | exact rfl):wpAnyH P md ops Q S (fuel+1) listed a w:=by
 subst hl
 exact wpAnyH_ready hr (by simp) (AllReadyH.cons ho h AllReadyH.nil)
end
end
section
open Go.RowKit
theorem ret_int {k:IntKind} {a b:Int} (h:a=b):Ending.returned (.int k a)=Ending.returned (.int k b):=by rw [h]
abbrev Bel (w w':World):Prop:=Below w.heap.size w w'
theorem Bel.refl (w:World):Bel w w:=Below.refl _ _
theorem Bel.alloc {w W:World} (h:Bel w W) (o:Obj):Bel w (W.alloc o):=Below.alloc h h.size o
theorem Bel.drew {w W:World} (h:Bel w W):Bel w W.drew:=Below.drew h
theorem Bel.drewN {w W:World} (h:Bel w W) (n:Nat):Bel w (W.drewN n):=⟨h.os,h.tape,h.output,h.size,h.block⟩
theorem Bel.then_ {w W W':World} (h:Bel w W) (h':Bel W W'):Bel w W':=Below.trans h (Below.mono h' h.size)
theorem Bel.setCell {w W:World} (h:Bel w W) {p:Addr} (hp:w.heap.size≤p.block) (u:Value):Bel w (W.setCell p u):=Below.setCell h hp u
theorem wp_scope_forward {P:Program} {Q:Exit→Act→World→Prop} {a:Act} {w:World} {c rest:Code} (l:Nat) (hf:findLabel c l=some rest)
 (h:c.wp P (Exit.jump l (fun a' w'=>rest.wp P (Exit.noGoto Q) a' w') Q) a w):(Code.scope c).wp P Q a w :=
 wp_scope_jumps l _ (fun _ _=>0) hf h fun _ _ hJ=>wp_mono hJ fun e _ _ hq=>by
  cases e with
  | goto l'=>exact hq.elim
  | normal=>exact hq
  | exit id=>exact hq
  | ret=>exact hq
  | panic ch=>exact hq
  | outgrown=>exact hq
@[go_sem] theorem jump_ret {Q:Exit→Act→World→Prop} {J:Act→World→Prop} {a:Act} {w:World} (l:Nat):Exit.jump l J Q .ret a w=Q .ret a w:=rfl
@[go_sem] theorem jump_normal {Q:Exit→Act→World→Prop} {J:Act→World→Prop} {a:Act} {w:World} (l:Nat):Exit.jump l J Q .normal a w=Q .normal a w:=rfl
@[go_sem] theorem jump_exit {Q:Exit→Act→World→Prop} {J:Act→World→Prop} {a:Act} {w:World} (l id:Nat):Exit.jump l J Q (.exit id) a w=Q (.exit id) a w:=rfl
end
section
open Go.ChangeShapes Go.WideShapes Go.ChangeAt Go.RowKit
theorem own:ownKnob Tryz.prog.godebug=none:=by kernel_rfl
theorem laidOut:laidOutB Tryz.prog=true:=by kernel_rfl
theorem trodAll_below {H:Type} {enc:TypeId×Value→H} {P:Program} (hl:laidOutB P=true) {W W':World} (hb:Bel W W') :
 ∀ (ts:List TypeId) (vs:List Value) (ds:List (DataW H)) (ps:List MemPlace),(∀ t ∈ ts,P.readableRec t=true∧t<P.types.size)→(∀ x ∈ ps,x.block<W.heap.size) →
  DataW.TrodAll enc P W 0 (fun _=>true) true ts vs ds ps→DataW.TrodAll enc P W' 0 (fun b=>decide (b<W.heap.size)) true ts vs ds ps:=by
 intro ts
 induction ts with
 | nil =>
   intro vs ds ps _ _ h
   cases vs <;> cases ds <;> simp_all [DataW.TrodAll]
 | cons t ts ih =>
   intro vs ds ps ht hp h
   cases vs with
   | nil=>simp [DataW.TrodAll] at h
   | cons v vs =>
     cases ds with
     | nil=>simp [DataW.TrodAll] at h
     | cons d ds =>
       obtain ⟨p,q,h1,h2,rfl⟩:=h
       have h0:=ht t (List.mem_cons_self ..)
       exact ⟨p,q,Below.trod hl h0.1 h0.2 h1 hb (fun x hx=>hp x (List.mem_append_left _ hx)),ih vs ds q (fun t' h'=>ht t' (List.mem_cons_of_mem _ h')) (fun x hx=>hp x (List.mem_append_right _ hx)) h2,rfl⟩
theorem law_post {H:Type} {enc:TypeId×Value→H} {P:Program} {f:Func} {s:ChangeSpec} {apart fresh handsOn:Bool} {W W':World} {args:Array Value} {ds gs:List (DataW H)} {before:List MemPlace} {T:TypeId}
 (hl:laidOutB P=true) (hts:f.params.toList.all (fun t=>P.readableRec t && decide (t<P.types.size))=true) (hT:f.resultTypes = #[T]) (hu:P.underlying T=some .bool) (hv:s.vars=[])
 (hW:DataW.Whole enc P f.params.toList s.vars apart W args.toList ds gs before) (hs:s.fn H (ds ++ gs) = { results:=[.lit (.bool true)],args:=ds }) (hb:Bel W W') :
 s.post enc P f apart fresh handsOn false W args (.bool true) W':=by
 have hlt : ∀ p ∈ before,p.block<W.heap.size:=fun p hp=>hW.lt p hp
 have hW':=hW
 obtain ⟨p,q,hA,hV,rfl,_,_⟩:=hW'
 rw [hv] at hV
 obtain ⟨rfl,rfl⟩:=trodVars_none hV
 refine ⟨ds,[],p ++ [],[],p,[],hW,?_,?_,?_,Below.frame hb _,fun h=>by cases h⟩
 ·rw [hs,hT]
  exact trodAll_cons_mk (shut_bool hu _) trodAll_mk0
 ·rw [hs]
  refine trodAll_below hl hb _ _ _ _ (fun t ht=>?_) (fun x hx=>hlt x (List.mem_append_left _ hx)) hA
  have:=List.all_eq_true.1 hts t ht
  simpa using this
 ·rw [hs,hv]
  rfl
section
variable {H:Type} {enc:TypeId×Value→H} {P:Program} {w:World} {base:Nat} {spare:Nat→Bool} {held:Bool}
theorem slice_read {t e:TypeId} {fuel sz:Nat} {cs:List Value} {x:DataW H×List MemPlace} (ht:P.underlying t=some (.slice e)) (hsz:P.cellsOf e=sz) (h0 : 0<sz) (h:DataW.trod enc P w base spare held fuel t cs=some x) :
 ∃ (A:Option Addr) (n cap:Nat),cs=[.slice A n cap]∧n≤cap∧cap≤maxLen∧(A=none→n=0∧cap=0) ∧
  (0<n → ∃ b off,A=some ⟨b,off,none⟩∧b<w.heap.size ∧ ∀ i,i<n → ∃ cs' fuel' y,cs'.length=sz∧(∀ j v,cs'[j]? = some v→w.cell? ⟨b,off+i * sz+j,none⟩=some v)∧DataW.trod enc P w base spare held fuel' e cs'=some y):=by
 rcases Go.Deep.open_slice ht h with ⟨rfl,-⟩ | ⟨a,len,cap,m,n,D,Pl,rfl,-,hl,hm,hmm,-,hi⟩
 ·exact ⟨none,0,0,rfl,Nat.le_refl _,Nat.zero_le _,fun _=>⟨rfl,rfl⟩,fun h=>absurd h (by omega)⟩
 ·refine ⟨some a,len,cap,rfl,hl,hm,(fun h=>by cases h),fun hn=>?_⟩
  have hlm:len≤m:=by subst hmm;split <;> omega
  rw [hsz] at hi
  obtain ⟨b,off,spot⟩:=a
  have hspot:spot=none∧b<w.heap.size:=by
   obtain ⟨cs',hc,-⟩:=hi 0 (by omega)
   obtain ⟨-,hcl,hat⟩:=World.cells?_some hc
   have h1:=hat 0 h0
   have hcl0:cs'[0]? = some (cs'[0]'(by omega)):=List.getElem?_eq_getElem (by omega)
   rw [hcl0] at h1
   have h2:w.cell? ⟨b,off,spot⟩=some (cs'[0]'(by omega)):=by simpa [Addr.add] using h1
   exact ⟨World.cell?_spot h2,block_lt_of_cell h2⟩
  obtain ⟨rfl,hb⟩:=hspot
  refine ⟨b,off,rfl,hb,fun i him=>?_⟩
  obtain ⟨cs',hc,htr⟩:=hi i (by omega)
  obtain ⟨-,hcl,hat⟩:=World.cells?_some hc
  refine ⟨cs',n,_,hcl,fun j v hv=>?_,htr⟩
  have hj:j<sz:=by have:=(List.getElem?_eq_some_iff.1 hv).1;omega
  have h1:=hat j hj
  rw [hv] at h1
  rw [← h1]
  congr 1
  unfold Addr.add
  by_cases hz:i * sz=0 <;> by_cases hz':j=0 <;> simp [hz,hz',Nat.add_assoc]
end
end
section
open Go.RowKit Go.Shelf
theorem Bel.grown {A B:World} (h:Bel A B) (row:Option Nat):A.grownBy B row:=⟨h.os,h.tape,h.output,h.size,fun i hi _=>h.block i hi⟩
variable {F:Fence} {n:Nat} {P:Program}
theorem wpIn_scope_wide {P:Program} {n:Nat} {Q:Exit→Act→World→Prop} {a:Act} {w:World} {c:Code} (h:c.wpIn Fence.wide n P (Exit.noGoto Q) a w):(Code.scope c).wpIn Fence.wide n P Q a w :=
 wpIn_wide.2 (wp_scope_straight (wpIn_wide.1 h))
theorem calls_of_wp_marks {P:Program} (n:Nat) {f:FuncId} {fn:Func} {c:Code} {args:Array Value} {w:World} {R:Ending→World→Prop} (hf:P.funcs[f]? = some fn) (hb:fn.body=some c)
 (h:c.wp P (bodyPostM Fence.wide n P fn R) { tmps:=args ++ Array.replicate (fn.ntmps - args.size) undef,defers:=[] } w):Calls P f args w R :=
 callsIn_wide.1 (callsIn_of_wp_marks (n:=n) hf hb trivial (wpIn_wide.2 h) rfl)
end
section
open Go.RowKit Go.Shelf
theorem Below.c {B:Nat} {w w':World} (h:Below B w w') {p:Addr} {v:Value} (hc:w.cell? p=some v) (hp:p.block<B):w'.cell? p=some v:=(Below.cell h hp).trans hc
theorem Bel.c {w w':World} (h:Bel w w') {p:Addr} {v:Value} (hc:w.cell? p=some v):w'.cell? p=some v:=(Below.cell h (World.block_lt_of_cell? (w:=w) (a:=p) hc)).trans hc
theorem Bel.f {w w':World} (h:Bel w w') {p:Addr} {v:Value} (hc:w.cell? p=some v) (hf:w.frozen? p=false):w'.frozen? p=false:=(Below.frozen h (World.block_lt_of_cell? (w:=w) (a:=p) hc)).trans hf
theorem grown_c {w w':World} {row:Option Nat} (h:w.grownBy w' row) {p:Addr} {v:Value} (hc:w.cell? p=some v) (hp:some p.block ≠ row):w'.cell? p=some v:=h.cell hc hp
theorem grown_f {w w':World} {row:Option Nat} (h:w.grownBy w' row) {p:Addr} {v:Value} (hc:w.cell? p=some v) (hf:w.frozen? p=false) (hp:some p.block ≠ row):w'.frozen? p=false :=
 (World.frozen?_of_block (h.block _ (World.block_lt_of_cell? (w:=w) (a:=p) hc) hp)).trans hf
theorem grown_trans {a b c:World} {row:Option Nat} (h:a.grownBy b row) (k:b.grownBy c row):a.grownBy c row :=
 ⟨k.os.trans h.os,k.tape.trans h.tape,k.output.trans h.output,Nat.le_trans h.size k.size,fun i hi hr=>(k.block i (Nat.lt_of_lt_of_le hi h.size) hr).trans (h.block i hi hr)⟩
theorem grown_refl (w:World) (row:Option Nat):w.grownBy w row:=⟨rfl,rfl,rfl,Nat.le_refl _,fun _ _ _=>rfl⟩
theorem grown_setCell (w:World) (p:Addr) (v:Value):w.grownBy (w.setCell p v) (some p.block):=⟨rfl,rfl,rfl,by simp,fun i _ hr=>Below.heap_setCell _ _ _ _ (fun e=>hr (by rw [e]))⟩
theorem Bel.grownBy {w w':World} (h:Bel w w') (row:Option Nat):w.grownBy w' row:=⟨h.os,h.tape,h.output,h.size,fun i hi _=>h.block i hi⟩
theorem grown_alloc {a b:World} {row:Option Nat} (h:a.grownBy b row) (o:Obj):a.grownBy (b.alloc o) row:=grown_trans h (World.grownBy_alloc b o row)
def Count (stops:Nat→Bool) (n k:Nat):Prop :=
 (k=n ∧ ∀ j,1≤j→j≤n→stops j=false) ∨ (1≤k∧k≤n∧stops k=true ∧ ∀ j,1≤j→j<k→stops j=false)
theorem Count.all {n k:Nat} (h:Count (fun _=>false) n k):k=n:=by
 rcases h with h | h
 ·exact h.1
 ·simp at h
theorem Bel.putObj {w w':World} (h:Bel w w') {D:Nat} (hD:w.heap.size≤D) (o:Obj):Bel w (w'.putObj D o):=Below.grown h (grownBy_putObj' w' D o) h.size (fun k e=>by cases e;exact hD)
theorem leavesM_collected {F:Fence} {n:Nat} {P:Program} {fn:Func} {tmps:Array Value} {R:Ending→World→Prop} {D:Nat} {ds:List Deferred} {w:World} (h:w.heap[D]? = some (.deferred (some [])))
 (h':LeavesInM F n P fn tmps R ds .returning (w.putObj D (.deferred none))):LeavesInM F n P fn tmps R ({ target:=.collected D,args:=#[] } :: ds) .returning w :=
 ⟨by simp,.inl ⟨_,_,rfl,run_takeDeferred h,h'⟩⟩
theorem leavesM_nil {F:Fence} {n:Nat} {P:Program} {fn:Func} {tmps:Array Value} {R:Ending→World→Prop} {v:Value} {w:World} (h:(results fn tmps).run P w = .ok v w) (h':R (.returned v) w) :
 LeavesInM F n P fn tmps R [] .returning w:=⟨v,h,h'⟩
theorem cell_putDeferred {w:World} {D:Nat} {p:Addr} {v:Value} {l:List Deferred} (hc:w.cell? p=some v) (h:w.heap[D]? = some (.deferred (some l))) (o:Obj):(w.putObj D o).cell? p=some v :=
 cell_kept hc (grownBy_putObj' w D o) (fun r e=>by cases e;exact ⟨_,h,rfl⟩)
theorem heap_setCell_deferred {w:World} {D:Nat} {l:Option (List Deferred)} (p:Addr) (v:Value) (h:w.heap[D]? = some (.deferred l)):(w.setCell p v).heap[D]? = some (.deferred l) :=
 (KeepsOthers.setCell w p v).same D _ h rfl
theorem Bel.deferred {w w':World} {D:Nat} {o:Obj} (h:Bel w w') (hd:w.heap[D]? = some o):w'.heap[D]? = some o:=(h.block D (Array.getElem?_eq_some_iff.1 hd).1).trans hd
end
section
open Go.RowKit Go.Shelf
theorem block_of_add (a:Addr) (n:Nat):(a.add n).block=a.block:=by unfold Addr.add;split <;> rfl
theorem add_of_add (a:Addr) (i j:Nat):(a.add i).add j=a.add (i+j):=by
 unfold Addr.add
 by_cases hi:i=0 <;> by_cases hj:j=0 <;> simp [hi,hj,Nat.add_assoc]
def Reads (w:World) (B size:Nat) (A:Option Addr) (n:Nat) (xs:List Value):Prop :=
 xs.length=n * size∧(0<n → ∃ ad,A=some ad∧ad.block<B ∧ ∀ j u,xs[j]? = some u→w.cell? (ad.add j)=some u)
section
variable {w w':World} {B B' size n:Nat} {A:Option Addr} {xs:List Value}
theorem Reads.none_:Reads w B size A 0 []:=⟨by simp,fun h=>absurd h (by omega)⟩
theorem Reads.at_ {k:Nat} (h:Reads w B 1 A n xs) (hk:k<n) : ∃ ad u,A=some ad∧ad.block<B∧xs[k]? = some u∧w.cell? (ad.add k)=some u:=by
 obtain ⟨ad,e,hb,hc⟩:=h.2 (by omega)
 have hl:k<xs.length:=by have:=h.1;omega
 exact ⟨ad,xs[k],e,hb,List.getElem?_eq_getElem hl,hc k _ (List.getElem?_eq_getElem hl)⟩
theorem Reads.keep (h:Reads w B size A n xs) (hk : ∀ p:Addr,p.block<B→w'.cell? p=w.cell? p):Reads w' B size A n xs :=
 ⟨h.1,fun hn=>by
  obtain ⟨ad,e,hb,hc⟩:=h.2 hn
  exact ⟨ad,e,hb,fun j u hu=>(hk _ (by rw [block_of_add];exact hb)).trans (hc j u hu)⟩⟩
theorem Reads.more (h:Reads w B size A n xs) (hB:B≤B'):Reads w B' size A n xs :=
 ⟨h.1,fun hn=>by
  obtain ⟨ad,e,hb,hc⟩:=h.2 hn
  exact ⟨ad,e,by omega,hc⟩⟩
theorem Reads.below (h:Reads w B size A n xs) (hb:Below B w w'):Reads w' B size A n xs:=h.keep fun _ hp=>hb.cell hp
theorem Reads.drew (h:Reads w B size A n xs):Reads w.drew B size A n xs:=h
theorem Reads.drewN (h:Reads w B size A n xs) (k:Nat):Reads (w.drewN k) B size A n xs:=h
theorem Reads.alloc (h:Reads w B size A n xs) (hB:B≤w.heap.size) (o:Obj):Reads (w.alloc o) B size A n xs:=h.keep fun p hp=>World.cell?_alloc_lt w o p (by omega)
theorem Reads.setCell (h:Reads w B size A n xs) {p:Addr} (hB:B≤p.block) (u:Value):Reads (w.setCell p u) B size A n xs :=
 h.keep fun q hq=>World.cell?_setCell_other w p q u (fun e=>by subst e;omega)
theorem Reads.grown (h:Reads w B size A n xs) {row:Option Nat} (hg:w.grownBy w' row) (hB:B≤w.heap.size) (hr : ∀ g,row=some g→B≤g):Reads w' B size A n xs :=
 h.keep fun p hp=>World.cell?_of_block (hg.block p.block (by omega) (fun e=>by have:=hr _ e.symm;omega))
theorem Reads.cut (h:Reads w B size A n xs) {k cap:Nat} (hk:k≤n) (hc:n≤cap) :
 Reads w B size (if cap=k then A else A.map (·.add (k * size))) (n - k) (xs.drop (k * size)):=by
 refine ⟨by rw [List.length_drop,h.1,Nat.sub_mul],fun hn=>?_⟩
 obtain ⟨ad,rfl,hb,hcell⟩:=h.2 (by omega)
 rw [if_neg (by omega)]
 refine ⟨ad.add (k * size),rfl,by rw [block_of_add];exact hb,fun j u hu=>?_⟩
 rw [add_of_add]
 exact hcell _ u (by rw [← hu,List.getElem?_drop])
theorem Reads.of_own {base:Nat} {e:TypeId} {c:Nat} (h:w.ownsRow base e size (.slice A n c) n xs):Reads w w.heap.size size A n xs:=by
 refine ⟨h.1,fun hn=>?_⟩
 obtain ⟨g,cap,hv,_,hlt⟩:=h.form hn
 have hA:A=some ⟨g,0,none⟩:=by injection hv
 subst hA
 exact ⟨_,rfl,hlt,h.cells (g:=g) rfl⟩
end
def Blk (w:World) (g:Nat) (t:TypeId) (cs:Array Value):Prop:=w.heap[g]? = some (.cells cs t (0,0))
section
variable {w w':World} {g:Nat} {t:TypeId} {cs:Array Value}
theorem Blk.lt (h:Blk w g t cs):g<w.heap.size:=by
 rcases Nat.lt_or_ge g w.heap.size with hlt | hge
 ·exact hlt
 ·unfold Blk at h;rw [Array.getElem?_eq_none hge] at h;cases h
theorem Blk.cell (h:Blk w g t cs) (i:Nat):w.cell? ⟨g,i,none⟩=cs[i]?:=cell_of_row w g i cs t (0,0) h
theorem Blk.frozen (h:Blk w g t cs) (i:Nat):w.frozen? ⟨g,i,none⟩=false:=by
 unfold Blk at h
 simp [World.frozen?,h]
theorem Blk.new (w:World) (t:TypeId) (cs:Array Value):Blk (w.alloc (.cells cs t)) w.heap.size t cs:=heap_alloc_new w _
theorem Blk.drew (h:Blk w g t cs):Blk w.drew g t cs:=h
theorem Blk.drewN (h:Blk w g t cs) (n:Nat):Blk (w.drewN n) g t cs:=h
theorem Blk.alloc (h:Blk w g t cs) (o:Obj):Blk (w.alloc o) g t cs:=(Below.heap_alloc w o g h.lt).trans h
theorem Blk.set_ (h:Blk w g t cs) (i:Nat) (u:Value):Blk (w.setCell ⟨g,i,none⟩ u) g t (cs.setIfInBounds i u):=by
 unfold Blk at h ⊢
 simp [World.setCell,Array.getElem?_modify,h]
theorem Blk.far (h:Blk w g t cs) {p:Addr} (hp:g ≠ p.block) (u:Value):Blk (w.setCell p u) g t cs:=(Below.heap_setCell w p u g hp).trans h
theorem Blk.below {B:Nat} (h:Blk w g t cs) (hb:Below B w w') (hg:g<B):Blk w' g t cs:=(hb.block g hg).trans h
theorem Blk.grown {row:Option Nat} (h:Blk w g t cs) (hb:w.grownBy w' row) (hg:some g ≠ row):Blk w' g t cs:=(hb.block g h.lt hg).trans h
theorem Blk.ne_ {g':Nat} {t':TypeId} {cs':Array Value} (h:Blk w g t cs) (h':Blk w g' t' cs') (hne:t ≠ t'):g ≠ g':=by
 rintro rfl
 unfold Blk at h h'
 rw [h] at h'
 injection h' with h'
 injection h' with _ ht
 exact hne ht
theorem own_blk_ne {base:Nat} {e:TypeId} {size n:Nat} {v:Value} {xs:List Value} (h:w.ownsRow base e size v n xs) (hg:Blk w g t cs) (hne:e ≠ t):v.ownBlock ≠ some g:=by
 rcases h.2 with ⟨rfl,_⟩ | ⟨g',cap,cur,rfl,_,hh,_⟩
 ·simp [Value.ownBlock]
 ·intro he
  have:g'=g:=by simpa [Value.ownBlock] using he
  subst this
  exact Blk.ne_ (t:=e) hh hg hne rfl
end
section
variable {P:Program} (w:World)
theorem run_append_of_nil (base:Nat) (t ty e:TypeId) (i:TypeInfo) (size:Nat) (ht:P.underlying t=some (.slice e)) (hi:P.info? e=some i)
 (v:Value) (n:Nat) (xs:List Value) (hown:w.ownsRow base e size v n xs) (c:Nat):(Builtin.append_ #[t,t] ty #[v,.slice none 0 c]).run P w = .ok v w:=by
 rcases hown.2 with ⟨rfl,rfl⟩ | ⟨g,cap,cur,rfl,_,_,hnc,_⟩
 ·simp [Builtin.append_,run_underlying ht,sizeOf,typeInfo,hi,Builtin.lenOf,Builtin.firstCells]
 ·simp [Builtin.append_,run_underlying ht,sizeOf,typeInfo,hi,Builtin.lenOf,Builtin.firstCells,hnc,storeCells]
theorem run_append_any (base:Nat) (t ty e:TypeId) (i:TypeInfo) (z:Value) (size bytes:Nat) (ht:P.underlying t=some (.slice e)) (hi:P.info? e=some i) (hz:i.zero=some z)
 (hsize:i.size=size) (hby:i.bytes=bytes) (hzs:z.cells.size=size) (hsz : 0<size)
 (v:Value) (n:Nat) (xs:List Value) (hown:w.ownsRow base e size v n xs)
 (B:Nat) (A:Option Addr) (m c:Nat) (news:List Value) (hr:Reads w B size A m news) (h1 : ∀ u ∈ news,u.oneCell'=true)
 (h63:n+m≤maxLen) (hbytes:(n+m) * bytes≤140737488355328) (hbase:base≤w.heap.size) :
 ∃ v' w',(Builtin.append_ #[t,t] ty #[v,.slice A m c]).run P w = .ok v' w'∧w'.ownsRow base e size v' (n+m) (xs ++ news)∧w.grownBy w' v.ownBlock ∧
  (v'.ownBlock=v.ownBlock ∨ v'.ownBlock=some w.heap.size):=by
 rcases A with _ | ad
 ·have hm:m=0:=by
   rcases Nat.eq_zero_or_pos m with h0 | h0
   ·exact h0
   ·obtain ⟨ad,h,_⟩:=hr.2 h0
    cases h
  subst hm
  have hn:news=[]:=List.eq_nil_of_length_eq_zero (by simpa using hr.1)
  subst hn
  exact ⟨v,w,run_append_of_nil w base t ty e i size ht hi v n xs hown c,by simpa using hown,World.grownBy.refl w _,.inl rfl⟩
 ·have hcells : ∀ j u,news[j]? = some u→w.cell? (ad.add j)=some u:=by
   intro j u hu
   rcases Nat.eq_zero_or_pos m with h0 | h0
   ·subst h0
    have hn:news=[]:=List.eq_nil_of_length_eq_zero (by simpa using hr.1)
    subst hn
    simp at hu
   ·obtain ⟨ad',h,_,hc⟩:=hr.2 h0
    injection h with h
    subst h
    exact hc j u hu
  obtain ⟨v',w',hrun,h2,h3,_,h5⟩:=run_append_own_at (P:=P) w base t ty e i z size bytes ht hi hz hsize hby hzs hsz v n xs hown ad m c news hr.1 hcells h1 h63 hbytes hbase
  exact ⟨v',w',hrun,h2,h3,h5⟩
theorem wp_append_any {o:Oper} {a:Act} {K:Act→World→Prop} {Q:Exit→Act→World→Prop} (s x:Operand) (t:TypeId)
 (ho:o.op = .call { callee:=.builtin .append,args:=#[s,x],argTypes:=#[t,t] })
 (base:Nat) (e:TypeId) (i:TypeInfo) (z:Value) (size bytes:Nat) (ht:P.underlying t=some (.slice e)) (hi:P.info? e=some i) (hz:i.zero=some z)
 (hsize:i.size=size) (hby:i.bytes=bytes) (hzs:z.cells.size=size) (hsz : 0<size)
 (v:Value) (n:Nat) (xs:List Value) (hs:a.eval s=v) (hown:w.ownsRow base e size v n xs)
 (B:Nat) (A:Option Addr) (m c:Nat) (news:List Value) (hx:a.eval x = .slice A m c) (hr:Reads w B size A m news) (h1 : ∀ u ∈ news,u.oneCell'=true)
 (h63:n+m≤maxLen) (hbytes:(n+m) * bytes≤140737488355328) (hbase:base≤w.heap.size)
 (h : ∀ v' w',w'.ownsRow base e size v' (n+m) (xs ++ news)→w.grownBy w' v.ownBlock→(v'.ownBlock=v.ownBlock ∨ v'.ownBlock=some w.heap.size)→K (a.put o.dst v') w'):o.wp P a w K Q:=by
 obtain ⟨v',w',hrun,h2,h3,h4⟩:=run_append_any (P:=P) w base t o.type e i z size bytes ht hi hz hsize hby hzs hsz v n xs hown B A m c news hr h1 h63 hbytes hbase
 unfold Oper.wp execOp
 simp only [ho,resolve,invoke,builtin,Sem.run_bind,Sem.run_pure,Result.andThen_ok,List.map_toArray,List.map_cons,List.map_nil,hs,hx,hrun]
 exact h v' w' h2 h3 h4
theorem wpList_append_any {ops:Array Oper} {rest:List Oper} {o:Oper} {a:Act} {Q:Exit→Act→World→Prop} (hgd:o.guard=none) (s x:Operand) (t:TypeId)
 (ho:o.op = .call { callee:=.builtin .append,args:=#[s,x],argTypes:=#[t,t] })
 (base:Nat) (e:TypeId) (i:TypeInfo) (z:Value) (size bytes:Nat) (ht:P.underlying t=some (.slice e)) (hi:P.info? e=some i) (hz:i.zero=some z)
 (hsize:i.size=size) (hby:i.bytes=bytes) (hzs:z.cells.size=size) (hsz : 0<size)
 (v:Value) (n:Nat) (xs:List Value) (hs:a.eval s=v) (hown:w.ownsRow base e size v n xs)
 (B:Nat) (A:Option Addr) (m c:Nat) (news:List Value) (hx:a.eval x = .slice A m c) (hr:Reads w B size A m news) (h1 : ∀ u ∈ news,u.oneCell'=true)
 (h63:n+m≤maxLen) (hbytes:(n+m) * bytes≤140737488355328) (hbase:base≤w.heap.size)
 (h : ∀ v' w',w'.ownsRow base e size v' (n+m) (xs ++ news)→w.grownBy w' v.ownBlock→(v'.ownBlock=v.ownBlock ∨ v'.ownBlock=some w.heap.size)→wpList P ops Q rest (a.put o.dst v') w'):wpList P ops Q (o :: rest) a w :=
 wpList_plain hgd fun _ hK=>wp_append_any w s x t ho base e i z size bytes ht hi hz hsize hby hzs hsz v n xs hs hown B A m c news hx hr h1 h63 hbytes hbase fun v' w' h2 h3 h4=>hK _ _ (h v' w' h2 h3 h4)
end
section
variable {P:Program} (w:World)
end
end
section
open Go.RowKit
section
variable {P:Program} {T K E:TypeId} {k:IntKind}
theorem run_checkKey_int (hK:P.underlying K=some (.int k)) (e:Bool) (a:Int) (w:World):(Instr.checkKey e 10000 K (.int k a)).run P w = .ok () w:=by
 unfold Instr.checkKey
 simp [run_underlying hK]
theorem run_findKey_int (hK:P.underlying K=some (.int k)) {a:Int} {es:List MapEntry} {r:Option (Nat×Value)} (hf:Instr.findNow (.int k) (.int k a) es 0=some r) (w:World):(Instr.findKey K (.int k a) es).run P w = .ok r w:=by
 unfold Instr.findKey
 simp [run_underlying hK,hf]
theorem run_getObj_map {b c:Nat} {es:Array MapEntry} {w:World} (hb:w.heap[b]? = some (.map es c)):(getObj b).run P w = .ok (.map es c) w:=by
 unfold getObj
 simp only [Sem.run]
 rw [hb]
theorem run_setObj_fresh {es:Array MapEntry} {c:Nat} {w:World} (o:Obj):(setObj w.heap.size o).run P (w.alloc (.map es c)) = .ok () (w.alloc o):=by
 have h1:(w.alloc (.map es c)).heap[w.heap.size]? = some (.map es c):=by
  show (w.heap.push _)[w.heap.size]? = _
  simp
 unfold setObj
 simp only [Sem.run]
 rw [h1]
 have h2:(w.alloc (.map es c)).heap.setIfInBounds w.heap.size o=(w.alloc o).heap:=by
  show (w.heap.push _).setIfInBounds w.heap.size o=w.heap.push o
  apply Array.ext
  ·simp
  ·intro i h1 h2
   simp only [Array.size_setIfInBounds,Array.size_push] at h1
   by_cases hi:i=w.heap.size
   ·subst hi;simp
   ·rw [Array.getElem_setIfInBounds_ne (by simpa using h1) (fun e=>hi e.symm),Array.getElem_push_lt (by omega),Array.getElem_push_lt (by omega)]
 show Result.ok () { (w.alloc (.map es c)) with heap:=(w.alloc (.map es c)).heap.setIfInBounds w.heap.size o } = _
 rw [h2]
 rfl
theorem run_mapUpdate_fresh (hT:P.underlying T=some (.map K E)) (hK:P.underlying K=some (.int k)) {es:Array MapEntry} {a:Int} (hf:Instr.findNow (.int k) (.int k a) es.toList 0=some none) (c:Nat) (v:Value) (w:World) :
 (Instr.mapUpdate T (.map (some w.heap.size)) (.int k a) v).run P (w.alloc (.map es c)) = .ok () (w.alloc (.map (es.push { key:=.int k a,val:=v,born:=c }) (c+1))):=by
 have h1:(w.alloc (.map es c)).heap[w.heap.size]? = some (.map es c):=by
  show (w.heap.push _)[w.heap.size]? = _
  simp
 unfold Instr.mapUpdate
 simp only [Sem.run_bind,run_underlying hT,Result.andThen_ok,run_getObj_map h1,run_checkKey_int hK,run_findKey_int hK hf,run_setObj_fresh]
theorem run_lookup_int_ok (hT:P.underlying T=some (.map K E)) (hK:P.underlying K=some (.int k)) {b c:Nat} {es:Array MapEntry} {a:Int} {i:Nat} {v:Value} (hf:Instr.findNow (.int k) (.int k a) es.toList 0=some (some (i,v))) {w:World} (hb:w.heap[b]? = some (.map es c)) :
 (Instr.lookup T (.map (some b)) (.int k a) true).run P w = .ok (.tuple #[v,.bool true]) w:=by
 have hg:(getObj b).run P w = .ok (.map es c) w:=run_getObj_map hb
 have hck : ∀ e,(Instr.checkKey e 10000 K (.int k a)).run P w = .ok () w:=fun e=>run_checkKey_int hK e a w
 unfold Instr.lookup
 simp only [Sem.run_bind,run_underlying hT,Result.andThen_ok,hg,Sem.run_pure,hck,run_findKey_int hK hf]
 simp
theorem run_lookup_int (hT:P.underlying T=some (.map K E)) (hK:P.underlying K=some (.int k)) {b c:Nat} {es:Array MapEntry} {a:Int} {i:Nat} {v:Value} (hf:Instr.findNow (.int k) (.int k a) es.toList 0=some (some (i,v))) {w:World} (hb:w.heap[b]? = some (.map es c)) :
 (Instr.lookup T (.map (some b)) (.int k a) false).run P w = .ok v w:=by
 have hg:(getObj b).run P w = .ok (.map es c) w:=run_getObj_map hb
 have hck : ∀ e,(Instr.checkKey e 10000 K (.int k a)).run P w = .ok () w:=fun e=>run_checkKey_int hK e a w
 unfold Instr.lookup
 simp only [Sem.run_bind,run_underlying hT,Result.andThen_ok,hg,Sem.run_pure,hck,run_findKey_int hK hf]
 simp
theorem run_lookup_int_none (hT:P.underlying T=some (.map K E)) (hK:P.underlying K=some (.int k)) {b c:Nat} {es:Array MapEntry} {a:Int} {z:Value} (hf:Instr.findNow (.int k) (.int k a) es.toList 0=some none) {w:World} (hz:(zeroValue E).run P w = .ok z w) (hb:w.heap[b]? = some (.map es c)) :
 (Instr.lookup T (.map (some b)) (.int k a) true).run P w = .ok (.tuple #[z,.bool false]) w:=by
 have hg:(getObj b).run P w = .ok (.map es c) w:=run_getObj_map hb
 have hck : ∀ e,(Instr.checkKey e 10000 K (.int k a)).run P w = .ok () w:=fun e=>run_checkKey_int hK e a w
 unfold Instr.lookup
 simp only [Sem.run_bind,run_underlying hT,Result.andThen_ok,hg,Sem.run_pure,hck,run_findKey_int hK hf,hz]
 simp
end
end
section
open Go.RowKit
def keyIs (a:Int) (e:MapEntry):Bool:=match e.key with
 | .int .i64 x=>x == a
 | _=>false
structure IntMap (es:Array MapEntry) (clk:Nat) (g:Int→Option Value):Prop where
 keys : ∀ e ∈ es.toList,∃ a,e.key = .int .i64 a
 find : ∀ a,(es.toList.find? (keyIs a)).map (·.val)=g a
 nodup:es.toList.Pairwise fun x y=>x.key ≠ y.key
 born:(es.toList.map (·.born)).Nodup
 young : ∀ e ∈ es.toList,e.born<clk
def MapAt (w:World) (b:Nat) (g:Int→Option Value):Prop:=∃ es clk,w.heap[b]? = some (.map es clk)∧IntMap es clk g
theorem IntMap.empty:IntMap #[] 0 (fun _=>none):=⟨by simp,by simp,by simp,by simp,by simp⟩
theorem MapAt.lt {w:World} {b:Nat} {g:Int→Option Value} (h:MapAt w b g):b<w.heap.size:=by
 obtain ⟨es,clk,hb,_⟩:=h
 exact (Array.getElem?_eq_some_iff.1 hb).1
theorem MapAt.of_block {w w':World} {b:Nat} {g:Int→Option Value} (h:MapAt w b g) (he:w'.heap[b]? = w.heap[b]?):MapAt w' b g:=by
 obtain ⟨es,clk,hb,hm⟩:=h
 exact ⟨es,clk,he.trans hb,hm⟩
theorem MapAt.grown {w w':World} {b:Nat} {g:Int→Option Value} {row:Option Nat} (h:MapAt w b g) (hg:w.grownBy w' row) (hne:some b ≠ row):MapAt w' b g:=h.of_block (hg.block b h.lt hne)
theorem MapAt.bel {w w':World} {b:Nat} {g:Int→Option Value} (h:MapAt w b g) (hg:Bel w w'):MapAt w' b g:=h.of_block (hg.block b h.lt)
theorem MapAt.made (w:World):MapAt (w.alloc (.map #[] 0)) w.heap.size (fun _=>none):=⟨#[],0,World.alloc_heap_new w _,.empty⟩
theorem findNow_int (a:Int) : ∀ (l:List MapEntry) (i:Nat),(∀ e ∈ l,∃ x,e.key = .int .i64 x) →
 (∃ j e,l[j]? = some e∧l.find? (keyIs a)=some e∧e.key = .int .i64 a∧Instr.findNow (.int .i64) (.int .i64 a) l i=some (some (i+j,e.val))) ∨
 (l.find? (keyIs a)=none∧Instr.findNow (.int .i64) (.int .i64 a) l i=some none)
 | [],i,_=>.inr ⟨rfl,rfl⟩
 | e :: l,i,h=>by
   obtain ⟨x,hx⟩:=h e (List.mem_cons_self ..)
   have ih:=findNow_int a l (i+1) (fun e' h'=>h e' (List.mem_cons_of_mem _ h'))
   have hs:Instr.sameNow (.int .i64) (.int .i64 a) e.key=some (a == x):=by rw [hx];simp [Instr.sameNow]
   have hk:keyIs a e=(x == a):=by unfold keyIs;rw [hx]
   by_cases hax:x=a
   ·subst hax
    refine .inl ⟨0,e,rfl,?_,hx,?_⟩
    ·simp [List.find?,hk]
    ·simp [Instr.findNow,hs]
   ·have h1:(a == x)=false:=by simp;exact fun e=>hax e.symm
    have h2:(x == a)=false:=by simp [hax]
    rcases ih with ⟨j,e',hj,hf,hke,hn⟩ | ⟨hf,hn⟩
    ·refine .inl ⟨j+1,e',by simpa using hj,?_,hke,?_⟩
     ·simp [List.find?,hk,h2,hf]
     ·simp [Instr.findNow,hs,h1,hn];omega
    ·refine .inr ⟨?_,?_⟩
     ·simp only [List.find?,hk,h2,hf]
     ·simp [Instr.findNow,hs,h1,hn]
section
variable {P:Program} {T K E:TypeId}
theorem run_lookup_map (hT:P.underlying T=some (.map K E)) (hK:P.underlying K=some (.int .i64)) {z:Value} {w:World} (hz:(zeroValue E).run P w = .ok z w) {b:Nat} {g:Int→Option Value} (hm:MapAt w b g) (a:Int) :
 (Instr.lookup T (.map (some b)) (.int .i64 a) false).run P w = .ok ((g a).getD z) w:=by
 obtain ⟨es,clk,hb,him⟩:=hm
 have hgo:(getObj b).run P w = .ok (.map es clk) w:=run_getObj_map hb
 have hck : ∀ e,(Instr.checkKey e 10000 K (.int .i64 a)).run P w = .ok () w:=fun e=>run_checkKey_int hK e a w
 have hfa:=him.find a
 rcases findNow_int a es.toList 0 him.keys with ⟨j,e,hj,hf,hke,hn⟩ | ⟨hf,hn⟩
 ·rw [hf] at hfa
  rw [← hfa]
  unfold Instr.lookup
  simp only [Sem.run_bind,run_underlying hT,Result.andThen_ok,hgo,Sem.run_pure,hck,run_findKey_int hK hn]
  simp
 ·rw [hf] at hfa
  rw [← hfa]
  unfold Instr.lookup
  simp only [Sem.run_bind,run_underlying hT,Result.andThen_ok,hgo,Sem.run_pure,hck,run_findKey_int hK hn,hz]
  simp
theorem run_lookup_map_ok (hT:P.underlying T=some (.map K E)) (hK:P.underlying K=some (.int .i64)) {z:Value} {w:World} (hz:(zeroValue E).run P w = .ok z w) {b:Nat} {g:Int→Option Value} (hm:MapAt w b g) (a:Int) :
 (Instr.lookup T (.map (some b)) (.int .i64 a) true).run P w = .ok (.tuple #[(g a).getD z,.bool (g a).isSome]) w:=by
 obtain ⟨es,clk,hb,him⟩:=hm
 have hgo:(getObj b).run P w = .ok (.map es clk) w:=run_getObj_map hb
 have hck : ∀ e,(Instr.checkKey e 10000 K (.int .i64 a)).run P w = .ok () w:=fun e=>run_checkKey_int hK e a w
 have hfa:=him.find a
 rcases findNow_int a es.toList 0 him.keys with ⟨j,e,hj,hf,hke,hn⟩ | ⟨hf,hn⟩
 ·rw [hf] at hfa
  rw [← hfa]
  unfold Instr.lookup
  simp only [Sem.run_bind,run_underlying hT,Result.andThen_ok,hgo,Sem.run_pure,hck,run_findKey_int hK hn]
  simp
 ·rw [hf] at hfa
  rw [← hfa]
  unfold Instr.lookup
  simp only [Sem.run_bind,run_underlying hT,Result.andThen_ok,hgo,Sem.run_pure,hck,run_findKey_int hK hn,hz]
  simp
theorem run_setObj_map {b:Nat} {es:Array MapEntry} {c:Nat} {w:World} (hb:w.heap[b]? = some (.map es c)) (o:Obj):(setObj b o).run P w = .ok () (w.putObj b o):=by
 simp [setObj,Sem.run,hb,World.putObj]
def upd (g:Int→Option Value) (a:Int) (v:Value):Int→Option Value:=fun x=>if x=a then some v else g x
theorem IntMap.push {es:Array MapEntry} {clk:Nat} {g:Int→Option Value} (h:IntMap es clk g) (a:Int) (v:Value) (hf:es.toList.find? (keyIs a)=none) :
 IntMap (es.push { key:=.int .i64 a,val:=v,born:=clk }) (clk+1) (upd g a v):=by
 have hno : ∀ e ∈ es.toList,e.key ≠ .int .i64 a:=by
  intro e he hk
  have:=List.find?_eq_none.1 hf e he
  simp [keyIs,hk] at this
 refine ⟨?_,?_,?_,?_,?_⟩
 ·intro e he
  simp at he
  rcases he with he | rfl
  ·exact h.keys e (by simpa using he)
  ·exact ⟨a,rfl⟩
 ·intro x
  rw [Array.toList_push,List.find?_append]
  by_cases hx:x=a
  ·subst hx
   rw [hf]
   simp [keyIs,upd]
  ·have h1:[({ key:=.int .i64 a,val:=v,born:=clk } : MapEntry)].find? (keyIs x)=none:=by
    simp [keyIs];exact fun e=>hx e.symm
   rw [h1]
   simp only [Option.or_none,upd,if_neg hx]
   exact h.find x
 ·rw [Array.toList_push,List.pairwise_append]
  refine ⟨h.nodup,by simp,fun x hx y hy=>?_⟩
  simp at hy
  subst hy
  exact hno x hx
 ·rw [Array.toList_push,List.map_append,List.nodup_append]
  refine ⟨h.born,by simp,fun x hx y hy=>?_⟩
  obtain ⟨e,he,rfl⟩:=List.mem_map.1 hx
  simp at hy
  subst hy
  have:=h.young e he
  omega
 ·intro e he
  simp at he
  rcases he with he | rfl
  ·have:=h.young e (by simpa using he)
   omega
  ·show clk<clk+1
   omega
theorem find_modify (a:Int) (v:Value) (x:Int) : ∀ (l:List MapEntry) (j:Nat) (e:MapEntry),l[j]? = some e→e.key = .int .i64 a→l.Pairwise (fun x y=>x.key ≠ y.key) →
 ((l.modify j fun e=>{ e with val:=v }).find? (keyIs x)).map (·.val)=if x=a then some v else (l.find? (keyIs x)).map (·.val)
 | [],j,e,h,_,_=>by simp at h
 | d :: l,0,e,h,hk,hp=>by
   simp at h
   subst h
   simp only [List.modify_zero_cons,List.find?]
   have h1:keyIs x { d with val:=v } = (a == x):=by simp [keyIs,hk]
   have h2:keyIs x d=(a == x):=by simp [keyIs,hk]
   rw [h1,h2]
   by_cases hx:x=a
   ·subst hx;simp
   ·have:(a == x)=false:=by simp;exact fun e=>hx e.symm
    rw [this]
    simp [hx]
 | d :: l,j+1,e,h,hk,hp=>by
   simp at h
   have hp':=List.pairwise_cons.1 hp
   have ih:=find_modify a v x l j e h hk hp'.2
   simp only [List.modify_succ_cons,List.find?]
   have hd:d.key ≠ .int .i64 a:=by
    have:=hp'.1 e (List.mem_of_getElem? h)
    rw [hk] at this
    exact this
   by_cases hkx:keyIs x d=true
   ·rw [hkx]
    have hxa:x ≠ a:=by
     rintro rfl
     unfold keyIs at hkx
     split at hkx
     ·rename_i y hy
      simp at hkx
      subst hkx
      exact hd hy
     ·simp at hkx
    simp [hxa]
   ·rw [Bool.not_eq_true] at hkx
    rw [hkx]
    exact ih
theorem IntMap.modify {es:Array MapEntry} {clk:Nat} {g:Int→Option Value} (h:IntMap es clk g) (a:Int) (v:Value) (j:Nat) (e:MapEntry) (hj:es.toList[j]? = some e) (hk:e.key = .int .i64 a) :
 IntMap (es.modify j fun e=>{ e with key:=.int .i64 a,val:=v }) clk (upd g a v):=by
 have hl:(es.modify j fun e=>{ e with key:=.int .i64 a,val:=v }).toList=es.toList.modify j fun e=>{ e with val:=v }:=by
  rw [Array.toList_modify]
  apply List.ext_getElem?
  intro i
  rw [List.getElem?_modify,List.getElem?_modify]
  by_cases hij:j=i
  ·subst hij
   rw [hj]
   simp [hk]
  ·simp [hij]
 have hkeys : ∀ (f:MapEntry→MapEntry),(∀ e,(f e).key=e.key)→(es.toList.modify j f).map (·.key)=es.toList.map (·.key):=by
  intro f hf
  apply List.ext_getElem?
  intro i
  rw [List.getElem?_map,List.getElem?_modify,List.getElem?_map]
  by_cases hij:j=i <;> cases es.toList[i]? <;> simp [hij,hf]
 have hborn:(es.toList.modify j fun e=>{ e with val:=v }).map (·.born)=es.toList.map (·.born):=by
  apply List.ext_getElem?
  intro i
  rw [List.getElem?_map,List.getElem?_modify,List.getElem?_map]
  by_cases hij:j=i <;> cases es.toList[i]? <;> simp [hij]
 have hmem : ∀ e' ∈ es.toList.modify j (fun e=>{ e with val:=v }),∃ d ∈ es.toList,e'.key=d.key∧e'.born=d.born:=by
  intro e' he'
  obtain ⟨i,hi⟩:=List.mem_iff_getElem?.1 he'
  rw [List.getElem?_modify] at hi
  cases hd:es.toList[i]? with
  | none=>rw [hd] at hi;simp at hi
  | some d =>
    rw [hd] at hi
    simp at hi
    refine ⟨d,List.mem_of_getElem? hd,?_⟩
    subst hi
    split <;> exact ⟨rfl,rfl⟩
 refine ⟨?_,?_,?_,?_,?_⟩
 ·intro e' he'
  rw [hl] at he'
  obtain ⟨d,hd,h1,h2⟩:=hmem e' he'
  rw [h1]
  exact h.keys d hd
 ·intro x
  rw [hl,find_modify a v x es.toList j e hj hk h.nodup]
  unfold upd
  split
  ·rfl
  ·exact h.find x
 ·rw [hl]
  have:=(List.pairwise_map (f:=MapEntry.key) (R:=fun x y=>x ≠ y)).2 h.nodup
  rw [← hkeys (fun e=>{ e with val:=v }) (fun _=>rfl)] at this
  exact List.pairwise_map.1 this
 ·rw [hl,hborn];exact h.born
 ·intro e' he'
  rw [hl] at he'
  obtain ⟨d,hd,h1,h2⟩:=hmem e' he'
  rw [h2]
  exact h.young d hd
theorem run_mapUpdate_map (hT:P.underlying T=some (.map K E)) (hK:P.underlying K=some (.int .i64)) {w:World} {b:Nat} {g:Int→Option Value} (hm:MapAt w b g) (a:Int) (v:Value) :
 ∃ w',(Instr.mapUpdate T (.map (some b)) (.int .i64 a) v).run P w = .ok () w'∧MapAt w' b (upd g a v)∧w.grownBy w' (some b):=by
 obtain ⟨es,clk,hb,him⟩:=hm
 have hgo:(getObj b).run P w = .ok (.map es clk) w:=run_getObj_map hb
 have hck : ∀ e,(Instr.checkKey e 10000 K (.int .i64 a)).run P w = .ok () w:=fun e=>run_checkKey_int hK e a w
 have hbl:=(Array.getElem?_eq_some_iff.1 hb).1
 rcases findNow_int a es.toList 0 him.keys with ⟨j,e,hj,hf,hke,hn⟩ | ⟨hf,hn⟩
 ·refine ⟨w.putObj b (.map (es.modify j fun e=>{ e with key:=.int .i64 a,val:=v }) clk),?_,⟨_,_,World.putObj_heap_same hbl,him.modify a v j e hj hke⟩,grownBy_putObj' w b _⟩
  have hk:(Instr.keyThatStays (((es[j]?).map (·.key)).getD (.int .i64 a)) (.int .i64 a)).run P w = .ok (.int .i64 a) w:=by
   have:es[j]? = some e:=by rw [← Array.getElem?_toList];exact hj
   rw [this]
   simp [Instr.keyThatStays,hke,Instr.sameBits]
  unfold Instr.mapUpdate
  simp only [Sem.run_bind,run_underlying hT,Result.andThen_ok,hgo,hck,run_findKey_int hK hn,Nat.zero_add,hk,run_setObj_map hb]
 ·refine ⟨w.putObj b (.map (es.push { key:=.int .i64 a,val:=v,born:=clk }) (clk+1)),?_,⟨_,_,World.putObj_heap_same hbl,him.push a v hf⟩,grownBy_putObj' w b _⟩
  unfold Instr.mapUpdate
  simp only [Sem.run_bind,run_underlying hT,Result.andThen_ok,hgo,hck,run_findKey_int hK hn,run_setObj_map hb]
end
end
end Go.Proofs.YtnajjhgbombboaaGreatDoor
