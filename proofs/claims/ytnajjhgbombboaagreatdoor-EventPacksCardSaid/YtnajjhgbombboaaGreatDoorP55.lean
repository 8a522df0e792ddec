/-
  Texts behind the statement: part 55.
-/
import Derived.Test.YtnajjhgbombboaaGreatDoorP38
import Derived.Test.YtnajjhgbombboaaGreatDoorP40
import Derived.Test.YtnajjhgbombboaaGreatDoorP45
import Derived.Sort.BigQuietIn
set_option linter.unusedVariables false
set_option linter.unusedSimpArgs false
namespace Go.Proofs.YtnajjhgbombboaaGreatDoor
section
open Go.RowKit Go.Shelf
theorem Count.upto {n k:Nat} {many:Int} (h:Count (fun j=>decide ((j:Int) ≥ many)) n k):(k:Int)=min (n:Int) (max 1 many):=by
 rcases h with ⟨rfl,h⟩ | ⟨h1,h2,h3,h4⟩
 ·by_cases hk:k=0
  ·omega
  ·have:=h k (by omega) (Nat.le_refl _)
   simp at this
   omega
 ·simp at h3
  by_cases hk:k=1
  ·omega
  ·have:=h4 (k - 1) (by omega) (by omega)
   simp at this
   omega
theorem ownFrom_grown {β : Type} {w:World} (row:Nat):OwnFrom w.heap.size (fun (_ : β) W=>w.grownBy W (some row)):=by
 intro s W W' row' hs hg hr
 refine ⟨hg.os.trans hs.os,hg.tape.trans hs.tape,hg.output.trans hs.output,Nat.le_trans hs.size hg.size,fun i hi hne=>?_⟩
 refine (hg.block i (Nat.lt_of_lt_of_le hi hs.size) (fun e=>?_)).trans (hs.block i hi hne)
 have:=(hr i e.symm).1
 omega
theorem ite_max (x y:Int):(if x<y then y else x)=max x y:=by omega
theorem ite_min (x y:Int):(if y<x then y else x)=min x y:=by omega
theorem putObj_deferred {w:World} {D D':Nat} {o:Obj} (h:w.heap[D]? = some o) (hne:D ≠ D') (o':Obj):(w.putObj D' o').heap[D]? = some o:=(World.putObj_heap_other hne).trans h
end
section
open Go.RowKit Go.Shelf
def SeqR {α : Type} (F:Fence) (n:Nat) (P:Program) (gf:Nat) (bd lb:Array Value) (E : α × Array Value→World→Prop) (n₀ : Nat) (xs:List α) (w0:World):Prop :=
 ∀ (l:Nat) (J Jx:List α → World→Prop) (W:World),Below n₀ w0 W→(∀ s A B,J s A→Bel A B→J s B) →
  (∀ pre x vs rest W1,xs=pre ++ x :: rest→J pre W1→E (x,vs) W1→YieldAt F (n - 1) P l vs W1 fun e W' =>
    (e = .returned (.bool true)∧J (pre ++ [x]) W'∧Own n₀ W.heap.size W1 W') ∨ (e = .returned (.bool false)∧Jx (pre ++ [x]) W')) →
  J [] W →
  CallsIn F n P gf (bd ++ #[.func (.yield l) #[] #[]] ++ lb) W fun e W'=>(∃ v,e = .returned v)∧(J xs W' ∨ ∃ pre x rest,xs=pre ++ x :: rest∧Jx (pre ++ [x]) W')
variable {F:Fence} {n:Nat} {P:Program}
theorem wpIn_seqr {α : Type} {g:Operand} {ps:Array Tmp} {assign body:Code} {Q:Exit→Act→World→Prop} {a:Act} {w:World}
  (hro:F.round=none) (h1 : 1≤n) {gf:Nat} {bd lb:Array Value} (hg:a.eval g = .func (.func gf) bd lb) (hFg:F.fn gf) (eg : ∀ args w,(callFunc gf args).run P w = .ok (.enter gf args) w)
  {E : α × Array Value→World→Prop} {n₀ : Nat} {xs:List α} {w0:World} (hseq:SeqR F (n - 1) P gf bd lb E n₀ xs w0) (hn0:n₀ ≤ w.heap.size) (hb0:Below n₀ w0 w) (hps : ∀ x vs W,E (x,vs) W→vs.size=ps.size)
  (I:List α → World→Prop) (Ix:Code→List α → World→Prop) (hI:OwnFrom w.heap.size I) (hIx : ∀ c,OwnFrom w.heap.size (Ix c)) (hE:OwnFrom w.heap.size E) (h0:I [] w)
  (Ax : α → Array Value→Act→World→Prop) (hAx : ∀ x vs a',OwnFrom w.heap.size (fun (_:Unit) W=>Ax x vs a' W))
  (hassign : ∀ (l:Nat) (pre:List α) (x : α) (vs:Array Value) (W:World) (K:Act→World→Prop),I pre W→E (x,vs) W→w.heap.size≤W.heap.size→(∀ a' W',KeepsFrom w.heap.size W W'→Own n₀ (w.heap.size+2) W W'→I pre W'→E (x,vs) W'→Ax x vs a' W'→K a' W') →
    assign.wpIn (F.inRound l) (n - 1 - 1) P (Exit.then K (fun _ _ _=>False)) { tmps:=(ps.zip vs).foldl (fun t (p,v)=>t.setIfInBounds p v) a.tmps,defers:=[] } W)
  (hbody : ∀ (l:Nat) (pre:List α) (x : α) (vs:Array Value) (rest:List α) (a':Act) (W:World),xs=pre ++ x :: rest→w.heap.size≤l→(∃ r,W.heap[l]? = some (.loop r))→I pre W→E (x,vs) W→Ax x vs a' W →
    body.wpIn (F.inRound l) (n - 1 - 1) P (ownPostG w.heap.size (Own n₀ (w.heap.size+2)) I Ix (pre ++ [x]) W) a' W)
  (hdone : ∀ (D:Nat) (W:World),w.heap.size≤D→I xs W→W.heap[D]? = some (.deferred (some []))→Q .normal { a with defers:={ target:=.collected D,args:=#[] } :: a.defers } W)
  (hstop : ∀ (D:Nat) (c:Code) (pre:List α) (x : α) (rest:List α) (W:World),w.heap.size≤D→xs=pre ++ x :: rest→Ix c (pre ++ [x]) W→W.heap[D]? = some (.deferred (some [])) →
    c.wpIn F n P Q { a with defers:={ target:=.collected D,args:=#[] } :: a.defers } W) :
  (Code.rangeFunc g ps assign body).wpIn F n P Q a w:=by
 refine wpIn_rangeFunc fun fn hfn=>?_
 rw [hro]
 generalize hR:(fun st pe=>({ state:=st,pending:=pe,fn,tmps:=a.tmps,params:=ps,assign,body,defers:=w.heap.size } : Loop))=R
 have hR' : ∀ st pe,R st pe = { state:=st,pending:=pe,fn,tmps:=a.tmps,params:=ps,assign,body,defers:=w.heap.size }:=fun st pe=>by rw [← hR]
 let W1:=(w.alloc (.deferred (some []))).alloc (.loop (R .ready none))
 let Fine:Obj→World→Prop:=fun o W=>W.heap[w.heap.size+1]? = some o∧W.heap[w.heap.size]? = some (.deferred (some []))
 have hs1:W1.heap.size=w.heap.size+2:=by simp [W1]
 have hF1:Fine (.loop (R .ready none)) W1:=by
  refine ⟨?_, ?_⟩
  ·have:=World.alloc_heap_new (w.alloc (.deferred (some []))) (.loop (R .ready none))
   rwa [World.size_alloc] at this
  ·exact (Below.heap_alloc _ _ _ (by simp)).trans (World.alloc_heap_new w _)
 have hI1:I [] W1:=hI.alloc _ (hI.alloc _ h0)
 have hb1:Below n₀ w0 W1:=hb0.trans (((Below.refl _ w).alloc hn0 _).alloc (by simp;omega) _)
 have hFk : ∀ {o:Obj} {A B:World},Fine o A→KeepsFrom w.heap.size A B→o.isCells=false→Fine o B:=fun h k ho=>⟨k.same _ _ (by omega) h.1 ho,k.same _ _ (Nat.le_refl _) h.2 rfl⟩
 have hFp : ∀ {o o':Obj} {A:World},Fine o A→Fine o' (A.putObj (w.heap.size+1) o'):=fun {o o' A} h =>
  ⟨World.putObj_heap_same (Array.getElem?_eq_some_iff.1 h.1).1,(World.putObj_heap_other (by omega)).trans h.2⟩
 have hBp : ∀ {A:World} {o:Obj},w.heap.size≤A.heap.size→Own n₀ (w.heap.size+2) A (A.putObj (w.heap.size+1) o):=fun {A o} hA =>
  ⟨(Below.refl n₀ A).grown (grownBy_putObj' A _ o) (by omega) (fun k e=>by cases e;omega),fun k h1 _=>World.putObj_heap_other (by omega)⟩
 refine ⟨w.heap.size+1,[{ target:=.collected w.heap.size,args:=#[] }],W1,{ target:=.fn (.func gf) lb,args:=bd ++ #[.func (.yield (w.heap.size+1)) #[] #[]] },W1,gf,
  bd ++ #[.func (.yield (w.heap.size+1)) #[] #[]] ++ lb,W1, ?_, ?_, ?_, ?_,fun _=>h1, ?_⟩
 ·have:=run_enterLoop_outer (P:=P) (w:=w) fn a.tmps ps assign body
  rw [this]
  show _=Result.ok _ ((w.alloc (.deferred (some []))).alloc (.loop (R .ready none)))
  rw [hR']
 ·simp only [resolve,hg]
  simp [go_sem]
 ·intro f' hf'
  simp [Target.leads] at hf'
  subst hf'
  exact hFg
 ·simp [invoke,go_sem,eg]
 ·refine (hseq (w.heap.size+1) (fun pre W=>I pre W∧Fine (.loop (R .ready none)) W) (fun pre W=>∃ c,Ix c pre W∧Fine (.loop (R .done (some c))) W) W1 hb1 ?_ ?_ ⟨hI1,hF1⟩).mono ?_
  ·rintro s A B ⟨hi,hf⟩ hAB
   have hlt : ∀ k o,A.heap[k]? = some o→k<A.heap.size:=fun k o h=>(Array.getElem?_eq_some_iff.1 h).1
   exact ⟨hI s A B none hi (hAB.grown none) (fun r e=>by cases e),(hAB.block _ (hlt _ _ hf.1)).trans hf.1,(hAB.block _ (hlt _ _ hf.2)).trans hf.2⟩
  ·
   rintro pre x vs rest W hxs ⟨hi,hf⟩ hex
   have hy:=run_yield (P:=P) (args:=vs) hf.1 (by rw [hR'];exact hps x vs W hex)
   rw [hR'] at hy
   have hWs:w.heap.size≤W.heap.size:=by have:=(Array.getElem?_eq_some_iff.1 hf.1).1;omega
   refine ⟨fn,_,assign,body,hy,roundIn_of_wpIn hfn (hassign _ pre x vs W _ hi hex hWs ?_)⟩
   clear hy
   intro a' Wa hka hba hia hea hax
   have hfa:=hFk hf hka rfl
   have hls:w.heap.size+1<Wa.heap.size:=(Array.getElem?_eq_some_iff.1 hfa.1).1
   refine ⟨_,run_beginRound hfa.1 (by rw [hR']), ?_⟩
   have hf2:Fine (.loop { R .ready none with state:=.busy }) (Wa.putObj (w.heap.size+1) (.loop { R .ready none with state:=.busy })):=hFp hfa
   refine wpIn_mono (hbody _ pre x vs rest a' _ hxs (by omega) ⟨_,hf2.1⟩ (hI.putObj _ hia (by omega) hfa.1 rfl) (hE.putObj _ hea (by omega) hfa.1 rfl) ((hAx x vs a').putObj (s:=()) _ hax (by omega) hfa.1 rfl)) ?_
   have hends : ∀ (jump:Option Code) (W3:World),KeepsFrom w.heap.size (Wa.putObj (w.heap.size+1) (.loop { R .ready none with state:=.busy })) W3 →
     (Instr.endRound (w.heap.size+1) jump).run P W3 = .ok (.bool jump.isNone) (W3.putObj (w.heap.size+1) (.loop (R (if jump.isNone then .ready else .done) jump))) ∧
     Fine (.loop { R .ready none with state:=.busy }) W3∧Fine (.loop (R (if jump.isNone then .ready else .done) jump)) (W3.putObj (w.heap.size+1) (.loop (R (if jump.isNone then .ready else .done) jump))):=fun jump W3 hk3=>by
    have hf3:=hFk hf2 hk3 rfl
    have:=run_endRound (P:=P) jump hf3.1
    rw [hR'] at this
    refine ⟨?_,hf3,hFp hf3⟩
    rw [this,hR']
   rintro e a3 W3 hp
   cases e with
   | normal =>
     obtain ⟨hk3,hb3,hi3⟩:=hp
     obtain ⟨hr,hf3,hf4⟩:=hends none W3 hk3
     have h3s:w.heap.size≤W3.heap.size:=by have:=(Array.getElem?_eq_some_iff.1 hf3.1).1;omega
     exact ⟨_,_,hr,.inl ⟨rfl,⟨hI.putObj _ hi3 (by omega) hf3.1 rfl,hf4⟩,by rw [hs1];exact ((hba.trans (hBp (by omega))).trans hb3).trans (hBp h3s)⟩⟩
   | ret =>
     obtain ⟨hk3,hi3⟩:=hp
     obtain ⟨hr,hf3,hf4⟩:=hends (some .ret) W3 hk3
     exact ⟨_,_,hr,.inr ⟨rfl,.ret,(hIx _).putObj _ hi3 (by omega) hf3.1 rfl,hf4⟩⟩
   | exit id =>
     obtain ⟨hk3,hi3⟩:=hp
     obtain ⟨hr,hf3,hf4⟩:=hends (some (.exit id)) W3 hk3
     exact ⟨_,_,hr,.inr ⟨rfl,.exit id,(hIx _).putObj _ hi3 (by omega) hf3.1 rfl,hf4⟩⟩
   | goto t =>
     obtain ⟨hk3,hi3⟩:=hp
     obtain ⟨hr,hf3,hf4⟩:=hends (some (.goto t)) W3 hk3
     exact ⟨_,_,hr,.inr ⟨rfl,.goto t,(hIx _).putObj _ hi3 (by omega) hf3.1 rfl,hf4⟩⟩
   | panic ch=>exact hp.elim
   | outgrown=>exact hp.elim
  ·
   rintro e W2 ⟨⟨v,rfl⟩,(⟨hi,hf⟩ | ⟨pre,x,rest,hxs,c,hi,hf⟩)⟩
   ·have hr:=run_endLoop (P:=P) hf.1 (by rw [hR'];simp)
    rw [hR'] at hr
    exact ⟨none,_,hr,hdone _ _ (Nat.le_refl _) (hI.putObj _ hi (by omega) hf.1 rfl) ((World.putObj_heap_other (by omega)).trans hf.2)⟩
   ·have hr:=run_endLoop (P:=P) hf.1 (by rw [hR'];simp)
    rw [hR'] at hr
    exact ⟨some c,_,hr,hstop _ c pre x rest _ (Nat.le_refl _) hxs ((hIx c).putObj _ hi (by omega) hf.1 rfl) ((World.putObj_heap_other (by omega)).trans hf.2)⟩
end
section
open Go.RowKit Go.Shelf
theorem wp_countr2 {P:Program} {α : Type} {g:Operand} {ps:Array Tmp} {assign body:Code} {Q:Exit→Act→World→Prop} {a:Act} {w:World} (n:Nat)
  (h1 : 1≤n) {gf:Nat} {bd lb:Array Value} (hg:a.eval g = .func (.func gf) bd lb) (eg : ∀ args w,(callFunc gf args).run P w = .ok (.enter gf args) w)
  {E : α × Array Value→World→Prop} {n₀ : Nat} {xs:List α} {w0:World} (hseq:SeqR Fence.wide (n - 1) P gf bd lb E n₀ xs w0) (hn0:n₀ ≤ w.heap.size) (hb0:Below n₀ w0 w) (hps : ∀ x vs W,E (x,vs) W→vs.size=ps.size) (hE:OwnFrom w.heap.size E)
  (Bn:Nat) (hB0:n₀ ≤ Bn) (hBw:Bn<w.heap.size) (hc:w.cell? ⟨Bn,0,none⟩=some (.int .i64 0)) (hf:w.frozen? ⟨Bn,0,none⟩=false) (id:Nat) (stops:Nat→Bool)
  (X : α → Array Value→Act→World→Prop) (hX : ∀ x vs a',OwnFrom w.heap.size (fun (_:Unit) W=>X x vs a' W))
  (hassign : ∀ (l:Nat) (x : α) (vs:Array Value) (W:World) (K:Act→World→Prop),E (x,vs) W→w.heap.size≤W.heap.size→(∀ a' W',Bel W W'→E (x,vs) W'→X x vs a' W'→K a' W') →
    assign.wpIn (Fence.wide.inRound l) (n - 1 - 1) P (Exit.then K (fun _ _ _=>False)) { tmps:=(ps.zip vs).foldl (fun t (p,v)=>t.setIfInBounds p v) a.tmps,defers:=[] } W)
  (hbody : ∀ (l k:Nat) (x : α) (vs:Array Value) (a':Act) (Wb:World),xs[k]? = some x→w.heap.size≤l→E (x,vs) Wb→X x vs a' Wb→w.grownBy Wb (some Bn)→Wb.cell? ⟨Bn,0,none⟩=some (.int .i64 k)→Wb.frozen? ⟨Bn,0,none⟩=false →
     body.wpIn (Fence.wide.inRound l) (n - 1 - 1) P (fun e _ W'=>Wb.grownBy W' (some Bn)∧W'.cell? ⟨Bn,0,none⟩=some (.int .i64 (k+1))∧W'.frozen? ⟨Bn,0,none⟩=false∧(e = .normal∧stops (k+1)=false ∨ e = .exit id∧stops (k+1)=true)) a' Wb)
  (hex : ∀ (a:Act) (W:World),Q .normal a W→Q (.exit id) a W)
  (hout : ∀ (D k:Nat) (W:World),Count stops xs.length k→w.heap.size≤D→w.grownBy W (some Bn)→W.cell? ⟨Bn,0,none⟩=some (.int .i64 k)→W.heap[D]? = some (.deferred (some [])) →
    Q .normal { a with defers:={ target:=.collected D,args:=#[] } :: a.defers } W) :
  (Code.rangeFunc g ps assign body).wp P Q a w:=by
 refine wpIn_wide.1 (wpIn_seqr (n:=n) rfl h1 hg trivial eg hseq hn0 hb0 hps
  (fun pre W=>((W.cell? ⟨Bn,0,none⟩=some (.int .i64 pre.length)∧W.frozen? ⟨Bn,0,none⟩=false)∧(∀ j,1≤j→j≤pre.length→stops j=false))∧w.grownBy W (some Bn))
  (fun c pre W=>((W.cell? ⟨Bn,0,none⟩=some (.int .i64 pre.length)∧W.frozen? ⟨Bn,0,none⟩=false)∧(c = .exit id∧stops pre.length=true ∧ ∀ j,1≤j→j<pre.length→stops j=false))∧w.grownBy W (some Bn))
  ?hI ?hIx hE ?h0 X hX ?assign ?body ?done ?stop)
 case hI =>
  refine OwnFrom.and (fun pre A B row hs hg hr=>?_) (ownFrom_grown Bn)
  exact ⟨⟨cell_kept hs.1.1 hg (fun r e=>(hr r e).2),(frozen_kept hs.1.1 hg (fun r e=>(hr r e).2)).trans hs.1.2⟩,hs.2⟩
 case hIx =>
  intro c
  refine OwnFrom.and (fun pre A B row hs hg hr=>?_) (ownFrom_grown Bn)
  exact ⟨⟨cell_kept hs.1.1 hg (fun r e=>(hr r e).2),(frozen_kept hs.1.1 hg (fun r e=>(hr r e).2)).trans hs.1.2⟩,hs.2⟩
 case h0=>exact ⟨⟨⟨hc,hf⟩,fun j h1 h2=>by simp at h2;omega⟩,grown_refl _ _⟩
 case assign =>
  intro l pre x vs W K hi he hs hK
  refine hassign l x vs W K he hs (fun a' W' hb he' hx=>hK a' W' (KeepsFrom.of_grownBy (Bel.grown hb (some Bn)) (fun j e=>by cases e;exact hBw)) (Own.of_bel (Nat.le_trans hn0 hs) hb) ?_ he' hx)
  obtain ⟨⟨⟨hc1,hf1⟩,hst⟩,hgw⟩:=hi
  exact ⟨⟨⟨hb.c hc1,hb.f hc1 hf1⟩,hst⟩,grown_trans hgw (Bel.grown hb _)⟩
 case body =>
  intro l pre x vs rest a' Wb hxs hl hr hi hEb hx
  obtain ⟨⟨⟨hc1,hf1⟩,hst⟩,hgw⟩:=hi
  refine wpIn_mono (hbody l pre.length x vs a' Wb (by rw [hxs];simp) hl hEb hx hgw hc1 hf1) ?_
  rintro e a'' W' ⟨hg',hc',hf',hx⟩
  have hk:KeepsFrom w.heap.size Wb W':=KeepsFrom.of_grownBy hg' (fun j e=>by cases e;exact hBw)
  have hb:Own n₀ (w.heap.size+2) Wb W':=⟨(Below.refl _ _).grown hg' (Nat.le_trans hn0 hgw.size) (fun j e=>by cases e;exact hB0),fun j h1 h2=>hg'.block j h2 (fun e=>by cases e;omega)⟩
  rcases hx with ⟨rfl,hs⟩ | ⟨rfl,hs⟩
  ·refine ⟨hk,hb,⟨⟨by rw [hc'];simp,hf'⟩,fun j h1 h2=>?_⟩,grown_trans hgw hg'⟩
   simp at h2
   by_cases hj:j=pre.length+1
   ·rw [hj];exact hs
   ·exact hst j h1 (by omega)
  ·refine ⟨hk,⟨⟨by rw [hc'];simp,hf'⟩,rfl,by simpa using hs,fun j h1 h2=>?_⟩,grown_trans hgw hg'⟩
   simp at h2
   exact hst j h1 (by omega)
 case done =>
  intro D W hD hi hdf
  exact hout D xs.length W (.inl ⟨rfl,hi.1.2⟩) hD hi.2 hi.1.1.1 hdf
 case stop =>
  intro D c pre x rest W hD hxs hi hdf
  obtain ⟨⟨⟨hc1,hf1⟩,rfl,hs,hst⟩,hgw⟩:=hi
  refine wpIn_wide.2 ?_
  apply wp_exit
  exact hex _ _ (hout D (pre ++ [x]).length W (.inr ⟨by simp,by rw [hxs];simp,hs,hst⟩) hD hgw hc1 hdf)
theorem wp_countr3 {P:Program} {α : Type} {g:Operand} {ps:Array Tmp} {assign body:Code} {Q:Exit→Act→World→Prop} {a:Act} {w:World} (n:Nat)
  (h1 : 1≤n) {gf:Nat} {bd lb:Array Value} (hg:a.eval g = .func (.func gf) bd lb) (eg : ∀ args w,(callFunc gf args).run P w = .ok (.enter gf args) w)
  {E : α × Array Value→World→Prop} {n₀ : Nat} {xs:List α} {w0:World} (hseq:SeqR Fence.wide (n - 1) P gf bd lb E n₀ xs w0) (hn0:n₀ ≤ w.heap.size) (hb0:Below n₀ w0 w) (hps : ∀ x vs W,E (x,vs) W→vs.size=ps.size) (hE:OwnFrom w.heap.size E)
  (Bn:Nat) (hB0:n₀ ≤ Bn) (hBw:Bn<w.heap.size) (hc:w.cell? ⟨Bn,0,none⟩=some (.int .i64 0)) (hf:w.frozen? ⟨Bn,0,none⟩=false) (id:Nat) (stops:Nat→Bool)
  (BX : α → Array Value→Nat→World→Prop) (hBX : ∀ x vs b,OwnFrom w.heap.size (fun (_:Unit) W=>BX x vs b W))
  (hround : ∀ (l:Nat) (x : α) (vs:Array Value) (W:World),E (x,vs) W→w.heap.size≤W.heap.size →
    assign.wpIn (Fence.wide.inRound l) (n - 1 - 1) P (Exit.then (fun a' Wa=>Bel W Wa∧E (x,vs) Wa ∧ ∃ b,BX x vs b Wa ∧ ∀ (l k:Nat) (Wb:World),xs[k]? = some x→w.heap.size≤l→E (x,vs) Wb→BX x vs b Wb→w.grownBy Wb (some Bn)→Wb.cell? ⟨Bn,0,none⟩=some (.int .i64 k)→Wb.frozen? ⟨Bn,0,none⟩=false →
     body.wpIn (Fence.wide.inRound l) (n - 1 - 1) P (fun e _ W'=>Wb.grownBy W' (some Bn)∧W'.cell? ⟨Bn,0,none⟩=some (.int .i64 (k+1))∧W'.frozen? ⟨Bn,0,none⟩=false∧(e = .normal∧stops (k+1)=false ∨ e = .exit id∧stops (k+1)=true)) a' Wb) (fun _ _ _=>False)) { tmps:=(ps.zip vs).foldl (fun t (p,v)=>t.setIfInBounds p v) a.tmps,defers:=[] } W)
  (hex : ∀ (a:Act) (W:World),Q .normal a W→Q (.exit id) a W)
  (hout : ∀ (D k:Nat) (W:World),Count stops xs.length k→w.heap.size≤D→w.grownBy W (some Bn)→W.cell? ⟨Bn,0,none⟩=some (.int .i64 k)→W.heap[D]? = some (.deferred (some [])) →
    Q .normal { a with defers:={ target:=.collected D,args:=#[] } :: a.defers } W) :
  (Code.rangeFunc g ps assign body).wp P Q a w :=
 wp_countr2 n h1 hg eg hseq hn0 hb0 hps hE Bn hB0 hBw hc hf id stops
  (fun x vs a' W=>∃ b,BX x vs b W ∧ ∀ (l k:Nat) (Wb:World),xs[k]? = some x→w.heap.size≤l→E (x,vs) Wb→BX x vs b Wb→w.grownBy Wb (some Bn)→Wb.cell? ⟨Bn,0,none⟩=some (.int .i64 k)→Wb.frozen? ⟨Bn,0,none⟩=false →
     body.wpIn (Fence.wide.inRound l) (n - 1 - 1) P (fun e _ W'=>Wb.grownBy W' (some Bn)∧W'.cell? ⟨Bn,0,none⟩=some (.int .i64 (k+1))∧W'.frozen? ⟨Bn,0,none⟩=false∧(e = .normal∧stops (k+1)=false ∨ e = .exit id∧stops (k+1)=true)) a' Wb)
  (fun x vs a' s A B row hs hg hr=>by obtain ⟨b,h1,h2⟩:=hs;exact ⟨b,hBX x vs b s A B row h1 hg hr,h2⟩)
  (fun l x vs W K he hs hK=>wpIn_mono (hround l x vs W he hs) (fun e a' Wa hp=>by
    cases e with
    | normal=>obtain ⟨hb,he',hx⟩:=hp;exact hK a' Wa hb he' hx
    | ret=>exact hp
    | exit id=>exact hp
    | goto t=>exact hp
    | panic ch=>exact hp
    | outgrown=>exact hp))
  (fun l k x vs a' Wb hx hl hEb hX hgw hc1 hf1=>by obtain ⟨b,h1,h2⟩:=hX;exact h2 l k Wb hx hl hEb h1 hgw hc1 hf1)
  hex hout
end
section
open Go.RowKit Go.Shelf Go.Lib
attribute [local go_sem] Oper.semAt_some
theorem givesEvs_openI {o:Option (List Ev)} {w w':World} {e:Ending} (h:GivesEvs o w e w') : ∃ v,e = .returned (.tuple #[v,.int .i64 (pickL o).2])∧EvsIn w.heap.size w' v (pickL o).1∧Bel w w':=by
 cases o with
 | none=>obtain ⟨rfl,hb⟩:=h;exact ⟨_,rfl,evs_none _ _,hb⟩
 | some x=>obtain ⟨v,rfl,hi,hb⟩:=h;exact ⟨_,rfl,hi,hb⟩
def enumE (l:List Ev):List (Nat×Ev):=l.mapIdx fun i x=>(i,x)
theorem enumE_len (l:List Ev):(enumE l).length=l.length:=List.length_mapIdx
theorem enumE_at {l:List Ev} {k:Nat} {x:Ev} (h:l[k]? = some x):(enumE l)[k]? = some (k,x):=by unfold enumE;rw [List.getElem?_mapIdx,h];rfl
theorem enumE_back {l:List Ev} {k:Nat} {p:Nat×Ev} (h:(enumE l)[k]? = some p):p.1=k∧l[k]? = some p.2:=by
 unfold enumE at h
 rw [List.getElem?_mapIdx] at h
 obtain ⟨x,hx,rfl⟩:=Option.map_eq_some_iff.1 h
 exact ⟨rfl,hx⟩
def ERow8 (p:(Nat×Ev)×Array Value) (W:World):Prop:=∃ vc vk vu vo vn vs,p.2 = #[.int .i64 p.1.1,evV p.1.2.k p.1.2.t vc vk vu vo vn vs]∧EvAt W vc vk vu vo vn vs p.1.2
theorem vals_kept8 {w w':World} {v:Value} {l:List Val} (h:ValsAt w v l) (hk : ∀ (p:Addr) x,w.cell? p=some x→w'.cell? p=some x):ValsAt w' v l:=by
 obtain ⟨A,c,e,hc,hm,hi⟩:=h
 exact ⟨A,c,e,hc,hm,fun hl=>by obtain ⟨b,off,ea,hi⟩:=hi hl;exact ⟨b,off,ea,fun i x hx=>by obtain ⟨h0,h1,h2,h3⟩:=hi i x hx;exact ⟨hk _ _ h0,hk _ _ h1,hk _ _ h2,hk _ _ h3⟩⟩⟩
theorem cols_kept8 {w w':World} {v:Value} {l:List Col} (h:ColsAt w v l) (hk : ∀ (p:Addr) x,w.cell? p=some x→w'.cell? p=some x):ColsAt w' v l:=by
 obtain ⟨A,c,e,hc,hm,hi⟩:=h
 exact ⟨A,c,e,hc,hm,fun hl=>by obtain ⟨b,off,ea,hi⟩:=hi hl;exact ⟨b,off,ea,fun i x hx=>by obtain ⟨h0,h1,h2,h3⟩:=hi i x hx;exact ⟨hk _ _ h0,hk _ _ h1,hk _ _ h2,hk _ _ h3⟩⟩⟩
theorem ints_kept8 {w w':World} {v:Value} {l:List Int} (h:IntsAt w v l) (hk : ∀ (p:Addr) x,w.cell? p=some x→w'.cell? p=some x):IntsAt w' v l:=by
 obtain ⟨A,c,e,hc,hm,hi⟩:=h
 exact ⟨A,c,e,hc,hm,fun hl=>by obtain ⟨b,off,ea,hi⟩:=hi hl;exact ⟨b,off,ea,fun i x hx=>hk _ _ (hi i x hx)⟩⟩
theorem lists_kept8 {w w':World} {v:Value} {l:List (List Int)} (h:ListsAt w v l) (hk : ∀ (p:Addr) x,w.cell? p=some x→w'.cell? p=some x):ListsAt w' v l:=by
 obtain ⟨A,c,e,hc,hm,hi⟩:=h
 exact ⟨A,c,e,hc,hm,fun hl=>by obtain ⟨b,off,ea,hi⟩:=hi hl;exact ⟨b,off,ea,fun i x hx=>by obtain ⟨u,h0,h1⟩:=hi i x hx;exact ⟨u,hk _ _ h0,ints_kept8 h1 hk⟩⟩⟩
theorem pairs_kept8 {w w':World} {v:Value} {l:List (ByteArray×ByteArray)} (h:PairsAt w v l) (hk : ∀ (p:Addr) x,w.cell? p=some x→w'.cell? p=some x):PairsAt w' v l:=by
 obtain ⟨A,c,e,hc,hm,hi⟩:=h
 exact ⟨A,c,e,hc,hm,fun hl=>by obtain ⟨b,off,ea,hi⟩:=hi hl;exact ⟨b,off,ea,fun i x hx=>by obtain ⟨h0,h1⟩:=hi i x hx;exact ⟨hk _ _ h0,hk _ _ h1⟩⟩⟩
theorem EvAt.kept8 {w w':World} {vc vk vu vo vn vs:Value} {e:Ev} (h:EvAt w vc vk vu vo vn vs e) (hk : ∀ (p:Addr) x,w.cell? p=some x→w'.cell? p=some x):EvAt w' vc vk vu vo vn vs e :=
 ⟨cols_kept8 h.c hk,ints_kept8 h.ky hk,lists_kept8 h.u hk,vals_kept8 h.o hk,vals_kept8 h.n hk,pairs_kept8 h.ns hk⟩
theorem erow8_own (n:Nat):OwnFrom n ERow8:=fun s A B row hs hg hr=>by
 obtain ⟨vc,vk,vu,vo,vn,vs,e,h⟩:=hs
 exact ⟨vc,vk,vu,vo,vn,vs,e,h.kept8 fun p x hx=>cell_kept hx hg (fun r e=>(hr r e).2)⟩
theorem evEach_any (Ab:Option Addr) (nb cb:Nat) (w:World):Calls Tryz.prog 25 #[.slice Ab nb cb] w fun e w'=>e = .returned (.func (.func 54) #[] #[.pointer (some ⟨w.heap.size,0,none⟩)])∧w.alloc (.cells #[.slice Ab nb cb] 34)=w':=by
 go_enter Tryz.func25,Tryz.ntmps25
 go_wp2
 go_ret
 exact ⟨rfl,rfl⟩
theorem below_bel8 {w0 w W:World} {n:Nat} (h0:w0.heap.size≤n) (hb:Bel w0 w) (h:Below n w W):Bel w0 W:=Below.trans hb (Below.mono h h0)
set_option maxRecDepth 100000 in
set_option maxHeartbeats 8000000 in
theorem evEach_seq (n:Nat) (hn : 6≤n) {w₀ w:World} {B n₀ : Nat} (hg:ErrType w₀) (vb:Value) (s:List UInt8) (hs:s.length≤1000000) (hb:BsAt w₀ vb s) (hw₀ : w₀.heap.size≤n₀) (hb₀ : Bel w₀ w) (hB:B<n₀) (hn0:n₀ ≤ w.heap.size)
  (c3:w.cell? ⟨B,0,none⟩=some vb) :
  SeqR Fence.wide n Tryz.prog 54 #[] #[.pointer (some ⟨B,0,none⟩)] ERow8 n₀ (enumE (pickL (unpackE s)).1) w:=fun l' J Jx W hW hJ hY hJ0=>by
 have d0:W.cell? ⟨B,0,none⟩=some vb:=(hW.cell (p:=⟨B,0,none⟩) hB).trans c3
 have hbW:Bel w₀ W:=below_bel8 hw₀ hb₀ hW
 have HUN:=Lib.hid (eunpack_any vb s hs W (hg.bel hbW) (hb.bel hbW))
 have HPO:Hid (∀ w' e,GivesEvs (unpackE s) W e w' → ∃ v,e = .returned (.tuple #[v,.int .i64 (pickL (unpackE s)).2])∧EvsIn W.heap.size w' v (pickL (unpackE s)).1∧Bel W w'):=Lib.hid (fun w' e h=>givesEvs_openI h)
 have HJ:=Lib.hid hJ
 have HJ0:=Lib.hid hJ0
 have HY:=Lib.hid hY
 have hWs:n₀ ≤ W.heap.size:=Nat.le_trans hn0 hW.size
 obtain ⟨Ab,cb,rfl,-⟩:=hb
 generalize pickL (unpackE s)=R at HPO HY ⊢
 obtain ⟨L,no⟩:=R
 dsimp only at HPO HY ⊢
 clear hJ hY hJ0 c3 hW hn0 hb₀ hg hbW hB hw₀
 refine callsIn_of_wp Tryz.func54 rfl trivial ?_ rfl
 simp only [Tryz.ntmps54,List.size_toArray,List.length_cons,List.length_nil,Nat.reduceAdd,Nat.reduceSub,Array.replicate_succ,Array.replicate_zero,List.push_toArray,List.append_toArray,List.nil_append,List.cons_append]
 gi_wp2_with fail
 try (refine wpIn_scope_wide ?_;gi_wp2_with fail)
 refine ⟨trivial,fun _=>by omega,(callsIn_wide.2 HUN.out).mono ?_⟩
 intro e1 w1 h1
 obtain ⟨v,rfl,hev,hb1⟩:=HPO.out _ _ h1
 obtain ⟨A1,c1,rfl,-,hm1,-⟩:=hev.at_
 have HEV:=Lib.hid hev
 have HJ1:=Lib.hid (HJ.out _ _ _ HJ0.out hb1)
 have HO1:Hid (Own n₀ W.heap.size W w1):=Lib.hid (Own.of_bel hWs hb1)
 have hsz1:=hb1.size
 have hLI:(L.length:Int)≤9223372036854775807:=by have:=hev.at_;obtain ⟨_,_,_,h1,h2,-⟩:=this;unfold maxLen at h2;omega
 clear h1 hev hb1 HPO HUN d0 hm1
 gi_wp2_with fail
 try (refine wpIn_label ?_;gi_wp2_with fail)
 gi_loopw [14] (fun i wr=>∃ k:Nat,k≤L.length∧i = .int .i64 k∧Hid (J ((enumE L).take k) wr∧Own n₀ W.heap.size w1 wr)) (fun i _=>L.length - (intOf i).toNat)
 case atStart=>exact ⟨0,Nat.zero_le _,rfl,HJ1.out,Own.refl _ _ _⟩
 case round =>
  obtain ⟨k,hk,rfl,HR⟩:=hrel
  by_cases hlt:k<L.length
  ·obtain ⟨x,hx⟩ : ∃ x,L[k]? = some x:=⟨_,List.getElem?_eq_getElem hlt⟩
   have hxe:=enumE_at hx
   have hke:k<(enumE L).length:=by rw [enumE_len];exact hlt
   have HSP:Hid (enumE L=(enumE L).take k ++ (k,x) :: (enumE L).drop (k+1)):=by
    refine Lib.hid ?_
    have h1:=List.take_append_drop k (enumE L)
    rw [List.drop_eq_getElem_cons hke] at h1
    rw [List.getElem?_eq_getElem hke] at hxe
    rw [← Option.some.inj hxe]
    exact h1.symm
   have HTK:Hid ((enumE L).take (k+1)=(enumE L).take k ++ [(k,x)]):=Lib.hid (by rw [List.take_add_one,hxe];rfl)
   have hevr:EvsIn W.heap.size wr (.slice A1 L.length c1) L:=HEV.out.keep (fun j h1 h2=>HR.out.2.keep j h1 h2)
   obtain ⟨A',c',he,hcl,hm',hat⟩:=hevr.at_
   injection he with he1 he2 he3
   subst he1 he3
   obtain ⟨b,off,rfl,hi⟩:=hat (by omega)
   obtain ⟨vc,vk,vu,vo,vn,vs,hxa,q0,q1,q2,q3,q4,q5,q6,q7⟩:=hi k x hx
   obtain ⟨Ac,cc,Ak,ck,Au,cu,Ao,co,An,cn,As,cs,rfl,rfl,rfl,rfl,rfl,rfl⟩:=hxa.opened
   have hkI:(k:Int)<L.length:=by omega
   have hbl:b<wr.heap.size:=World.block_lt_of_cell? (w:=wr) (a:=⟨b,off+k * 8,none⟩) q0
   have HXA:=Lib.hid (hxa.bel ((Bel.refl wr).alloc (.cells #[.int .i64 x.k,.string x.t,.slice Ac x.c.length cc,.slice Ak x.ky.length ck,.slice Au x.u.length cu,.slice Ao x.o.length co,.slice An x.n.length cn,.slice As x.ns.length cs] 31)))
   have HB2:Hid (Bel wr (wr.alloc (.cells #[.int .i64 x.k,.string x.t,.slice Ac x.c.length cc,.slice Ak x.ky.length ck,.slice Au x.u.length cu,.slice Ao x.o.length co,.slice An x.n.length cn,.slice As x.ns.length cs] 31))):=Lib.hid ((Bel.refl wr).alloc _)
   obtain ⟨fn,tmps,assign,body,hy,hRR⟩:=HY.out ((enumE L).take k) (k,x) #[.int .i64 k,evV x.k x.t (.slice Ac x.c.length cc) (.slice Ak x.ky.length ck) (.slice Au x.u.length cu) (.slice Ao x.o.length co) (.slice An x.n.length cn) (.slice As x.ns.length cs)] ((enumE L).drop (k+1)) (wr.alloc (.cells #[.int .i64 x.k,.string x.t,.slice Ac x.c.length cc,.slice Ak x.ky.length ck,.slice Au x.u.length cu,.slice Ao x.o.length co,.slice An x.n.length cn,.slice As x.ns.length cs] 31)) HSP.out (HJ.out _ _ _ HR.out.1 HB2.out) ⟨_,_,_,_,_,_,rfl,HXA.out⟩
   have hszr:W.heap.size≤wr.heap.size:=Nat.le_trans hsz1 HR.out.2.below.size
   unfold evV at hy
   clear hx hxe hke hevr he2 hcl hm' hat hi hxa
   gi_wp2
   refine ⟨fun _=>by omega,hRR.mono ?_⟩
   rintro e W3 (⟨rfl,hJ3,hk3⟩ | ⟨rfl,hJx3⟩)
   ·gi_wp2
    go_roundw
    case rel=>exact ⟨k+1,by omega,by go_num,by rw [HTK.out];exact hJ3,(HR.out.2.trans (Own.of_bel (Nat.le_trans hWs hszr) HB2.out)).trans hk3⟩
    case measure=>simp [intOf];omega
   ·gi_wp2
    (try first | rw [Exit.noGoto_ret] | rw [Exit.noGoto_normal]);first | go_end0 | refine bodyPost_ret (results_none rfl _ _ _) rfl ?_
    exact ⟨⟨_,rfl⟩,.inr ⟨_,_,_,HSP.out,hJx3⟩⟩
  ·obtain rfl:k=L.length:=by omega
   have HJF:Hid (J (enumE L) wr):=by have:=HR.out.1;rw [← enumE_len,List.take_length] at this;exact Lib.hid this
   clear hlt hk HR
   gi_wp2
   (try first | rw [Exit.noGoto_ret] | rw [Exit.noGoto_normal]);first | go_end0 | refine bodyPost_ret (results_none rfl _ _ _) rfl ?_
   exact ⟨⟨_,rfl⟩,.inl HJF.out⟩
end
section
open Go.RowKit Go.Shelf Go.Lib
attribute [local go_sem] Oper.semAt_some
set_option maxRecDepth 100000 in
set_option maxHeartbeats 8000000 in
theorem r8Pack_any (vl:Value) (l:List Ev) (w:World) (hl:EventsAt w vl l) (hwf : ∀ x ∈ l,x.Wf) (hsz:l.length≤100 → ∀ x ∈ l,x.Sz∧(x.c.length≤1000000∧x.ky.length≤1000000∧x.u.length≤1000000)):Calls Tryz.prog 24 #[vl] w fun e w'=>∃ v,e = .returned (.tuple #[v,.int .i64 (packR l).2])∧BsAt w' v (packR l).1∧Bel w w':=by
 obtain ⟨R,hR⟩ : ∃ R,R=packR l:=⟨_,rfl⟩
 rw [← hR]
 obtain ⟨A,c,rfl,hc,hm,hra⟩:=hl
 have HRA:=Lib.hid hra
 have HSZ:=Lib.hid hsz
 have HWF:=Lib.hid hwf
 have hlI:(l.length:Int)≤9223372036854775807:=by unfold maxLen at hm;omega
 clear hra hsz hwf hc hm
 unfold packR at hR
 by_cases h100 : 100<l.length
 ·rw [if_pos h100] at hR
  subst hR
  have hI:(100:Int)<l.length:=by omega
  clear h100
  go_enter Tryz.func24,Tryz.ntmps24
  go_wp2
  go_ret2
  exact ⟨_,rfl,⟨none,0,rfl,Nat.le_refl _,Nat.zero_le _,Reads.none_⟩,Bel.refl w⟩
 ·rw [if_neg h100] at hR
  have HR:=Lib.hid hR
  have hI : ¬ (100:Int)<l.length:=by omega
  have hI2:(l.length:Int)≤100:=by omega
  have HNU:=Lib.hid (fun V=>r2Number_any l.length (by omega) V)
  have h9:=numB_9 (n:=l.length) (by omega)
  have hcv:IntKind.u64.wrap (l.length:Int)=(l.length:Int):=by simp only [IntKind.wrap,IntKind.bits,IntKind.signed];simp;omega
  clear hR h100
  go_enter Tryz.func24,Tryz.ntmps24
  go_wp2_with fail
  refine (HNU.out _).mono ?_
  rintro e1 w1 h1
  obtain ⟨A1,m1,c1,rfl,HR1,hb1⟩:=givesB_row (Bel.refl w) h1
  have hm1:m1≤9:=Nat.le_trans (Nat.le_of_eq HR1.out.1.symm) h9
  clear h1 hb1
  go_wp2
  go_loopw [4,5] (fun v i wr=>∃ (k nn:Nat) (A':Option Addr) (c':Nat),k≤l.length∧nn≤9+6018 * k∧v = .slice A' nn c'∧i = .int .i64 k∧Hid (∀ x ∈ l.take k,rightE x=true)∧Hid (Row8 w w.heap.size nn (.slice A' nn c') (numB l.length ++ encTs (l.take k)) wr)) (fun v i _=>l.length - (intOf i).toNat)
  case atStart=>exact ⟨0,_,_,_,Nat.zero_le _,by omega,rfl,rfl,(by show ∀ x ∈ l.take 0,_;intro x hx;simp at hx),by have:=HR1.out;show Row8 _ _ _ _ (numB l.length ++ []) _;rw [List.append_nil];exact this⟩
  case round =>
   obtain ⟨k,nn,A',c',hk,hnn,rfl,rfl,HAL,HRW⟩:=hrel
   by_cases hlt:k<l.length
   ·obtain ⟨x,hx⟩ : ∃ x,l[k]? = some x:=⟨_,List.getElem?_eq_getElem hlt⟩
    obtain ⟨b,off,rfl,hi⟩:=HRA.out (by omega)
    obtain ⟨vc,vk,vu,vo,vn,vs,hat,q0,q1,q2,q3,q4,q5,q6,q7⟩:=hi k x hx
    obtain ⟨Ac,cc,Ak,ck,Au,cu,Ao,co,An,cn,As,cs,rfl,rfl,rfl,rfl,rfl,rfl⟩:=hat.opened
    have hbw:=HRW.out.2.2.1
    have c0:=hbw.c q0
    have c1:=hbw.c q1
    have c2:=hbw.c q2
    have c3:=hbw.c q3
    have c4:=hbw.c q4
    have c5:=hbw.c q5
    have c6:=hbw.c q6
    have c7:=hbw.c q7
    have hkI:(k:Int)<l.length:=by omega
    have hxm:x ∈ l:=List.mem_of_getElem? hx
    have hxw:=HWF.out x hxm
    have HEN:=Lib.hid (fun V (hV:Bel w V)=>r8Encode_any x _ _ _ _ _ _ V hxw (HSZ.out (by omega) x hxm).1 (HSZ.out (by omega) x hxm).2 (hat.bel hV))
    have hbl:b<wr.heap.size:=World.block_lt_of_cell? (w:=wr) (a:=⟨b,off+k * 8,none⟩) c0
    have HTK:Hid (encTs (l.take (k+1))=encTs (l.take k) ++ encT x):=Lib.hid (by rw [List.take_add_one,hx];exact encTs_app _ _)
    have HNX:Hid (rightE x=true → ∀ y ∈ l.take (k+1),rightE y=true):=Lib.hid (fun h y hy=>by
     rw [List.take_add_one,hx] at hy
     rcases List.mem_append.1 hy with hy | hy
     ·exact HAL.out y hy
     ·simp at hy;rw [hy];exact h)
    have HNO:Hid (rightE x=false→R=([],2)):=Lib.hid (fun h=>by
     rw [HR.out,if_neg (fun ha=>by rw [List.all_eq_true.1 ha x hxm] at h;cases h)])
    unfold GivesE8 encER evV at HEN
    have HBW:=Lib.hid hbw
    clear hi hx hat q0 q1 q2 q3 q4 q5 q6 q7 hbw
    cases hrx:rightE x with
    | false =>
      have hR0:=HNO.out hrx
      subst hR0
      rw [hrx] at HEN
      simp only [Bool.false_eq_true,if_false] at HEN
      go_wp2_with fail
      refine (HEN.out _ HBW.out).mono ?_
      rintro e2 w2 ⟨v2,rfl,hv2,hb2⟩
      obtain ⟨A2,c2',rfl,-⟩:=hv2
      have HF:=Lib.hid (HBW.out.then_ hb2)
      clear hb2 HRW
      go_wp2
      go_ret2
      exact ⟨_,rfl,⟨none,0,rfl,Nat.le_refl _,Nat.zero_le _,Reads.none_⟩,HF.out⟩
    | true =>
      rw [hrx] at HEN
      simp only [if_true] at HEN
      have hel:=encE_len hrx hxw
      have htl:=encT_len hrx hxw
      have HTX:=Lib.hid (fun V=>r8text_any ⟨(encE x).toArray⟩ (by show (encE x).toArray.size≤_;rw [List.size_toArray];omega) V)
      have hET:encT x=textB (encE x):=rfl
      dsimp only at HTX
      rw [← hET] at HTX
      have HNY:=Lib.hid (HNX.out hrx)
      generalize encE x=EX at HEN HTX
      clear hET hrx hel
      go_wp2_with fail
      refine (HEN.out _ HBW.out).mono ?_
      rintro e2 w2 ⟨v2,rfl,⟨A2,c2',rfl,hv1,hv2,hv3⟩,hb2⟩
      have hcs:=conv_reads c2' hv3
      unfold strV at hcs
      have hb2w:=id hb2
      have H2:=Lib.hid (HRW.out.bel hb2w)
      clear hb2 hb2w hv1 hv2 hv3 HRW HEN
      go_wp2_with fail
      refine (HTX.out _).mono ?_
      rintro e3 w3 h3
      obtain ⟨A3,m3,c3',rfl,HS3,hb3⟩:=givesB_src h3
      have hm3:m3≤6018:=Nat.le_trans (Nat.le_of_eq HS3.out.1.symm) htl
      have H3:=Lib.hid (H2.out.bel hb3)
      clear h3 hb3 H2
      go_wp2_with (at_builtin;refine app8 rfl (.tmp 32) (.tmp 35) rfl H3.out (by rfl) HS3.out (by rfl) (by omega) ?_;intro A4 c4' w4 H4)
      go_roundw
      case rel=>exact ⟨k+1,_,_,_,by omega,by omega,rfl,by go_num,HNY.out,by rw [HTK.out,← List.append_assoc];exact H4.out⟩
      case measure=>simp [intOf];omega
   ·obtain rfl:k=l.length:=by omega
    have hall:=HAL.out
    rw [List.take_length] at hall
    obtain rfl:R=(encEs l,0):=by rw [HR.out,if_pos (List.all_eq_true.2 hall)]
    have HF:Hid (Row8 w w.heap.size nn (.slice A' nn c') (encEs l) wr):=by have:=HRW.out;rw [List.take_length] at this;exact Lib.hid this
    clear HRW hall HAL
    go_wp2
    go_ret2
    obtain ⟨v,hv,hbs,hbb⟩:=HF.out.gives
    exact ⟨v,by rw [← hv];rfl,hbs,hbb⟩
end
section
open Go
section
variable {F:Fence} {n:Nat} {P:Program} {C:World→Prop} {ops:Array Oper}
theorem quiet_op {o:Oper} {a:Act} {K:Act→Prop} {K':Act→World→Prop} {Q':Exit→Act→World→Prop} {w:World} (hd : ∀ c,o.op ≠ Op.defer c) (hw:C w) (h : ∀ a w',C w'→K a→K' a w')
  (ha:o.askedIn F P a C) (hh:o.quietIn F n P a C K):o.wpIn F n P a w K' Q':=by
 obtain ⟨v,h1,h2⟩:=hh
 have h3:=h1 w hw
 unfold Oper.quietAtIn at h3
 refine ⟨ha w hw, ?_⟩
 rw [Oper.semAt_eq _ _ _ hd]
 revert h3
 cases (execOp a.eval o).run P w with
 | halt x w'=>intro h3;simp only [Oper.quietUponIn] at h3
 | ok x w' =>
   intro h3
   cases x with
   | value u =>
     simp only [Oper.quietUponIn] at h3
     simp only [Oper.uponIn]
     rw [h3.1,h3.2]
     exact h _ _ hw h2
   | skip =>
     simp only [Oper.quietUponIn] at h3
     simp only [Oper.uponIn]
     rw [h3.1,← h3.2]
     exact h _ _ hw h2
   | enter f args =>
     simp only [Oper.quietUponIn] at h3
     simp only [Oper.uponIn]
     obtain ⟨e1,hd,hc⟩:=h3
     rw [e1]
     exact ⟨hd,hc.mono fun e w'' ⟨he,hw''⟩=>by subst he;exact h _ _ hw'' h2⟩
   | _=>simp only [Oper.quietUponIn] at h3
theorem quiet_any {Q:Act→Prop} {Q':Exit→Act→World→Prop} (hd : ∀ (i:Nat) (o:Oper) (c:_),ops[i]? = some o→o.op ≠ Op.defer c) (hQ : ∀ a w,C w→Q a→Q' .normal a w) {md:Region.Mode} : ∀ (fuel:Nat) (listed:Array Bool) (a:Act) (w:World),C w →
  wpAnyQIn F n P md ops C Q fuel listed a→wpAnyIn F n P md ops Q' fuel listed a w
 | 0,_,_,_,hw,h=>⟨h.1,hQ _ _ hw h.2⟩
 | fuel+1,listed,a,w,hw,h=>⟨fun h0=>hQ _ _ hw (h.1 h0),fun i hi=>by
   have hh:=h.2 i hi
   have next:=fun a' w' (hw':C w')=>quiet_any (Q:=Q) (Q':=Q') hd hQ (md:=md) fuel (listed.setIfInBounds i true) a' w' hw'
   unfold qOpIn at hh
   unfold wpOpIn
   split
   ·rename_i ho
    simp only [ho] at hh
    exact next _ _ hw hh
   ·rename_i o ho
    simp only [ho] at hh
    obtain ⟨ha,hh⟩:=hh
    split
    ·rename_i hwt
     simp only [hwt,if_true] at hh
     exact quiet_op (fun c=>hd i o c ho) hw next ha hh
    ·rename_i hwt
     simp only [hwt] at hh
     exact ⟨ha w hw,next _ _ hw hh⟩⟩
end
end
end Go.Proofs.YtnajjhgbombboaaGreatDoor
