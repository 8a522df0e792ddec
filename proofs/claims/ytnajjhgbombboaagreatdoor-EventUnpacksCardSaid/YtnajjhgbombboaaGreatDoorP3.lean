/-
  Texts behind the statement: part 3.
-/
import Derived.Test.YtnajjhgbombboaaGreatDoorP1
import Derived.Lib.OthersKept
import Derived.Lib.TrimU
import Derived.Deep.LoopGhost
import Derived.Laws.EntriesVeiled
import Derived.StillTailTactics
import Derived.Deep.RegionHeld3
set_option linter.unusedVariables false
set_option linter.unusedSimpArgs false
namespace Go.Proofs.YtnajjhgbombboaaGreatDoor
section
open Go.RowKit Go.Shelf Go.Lib
attribute [local go_sem] Oper.semAt_some
def letterB (first:Bool) (c:Int):Bool:=if c=95 ∨ (48≤c∧c≤57) then !first else decide (97≤c∧c≤122)
theorem letterC_any (first:Bool) (c:Int) (b:Nat) (w:World) (h:w.cell? ⟨b,0,none⟩=some (.bool first)) :
 Calls Tryz.prog 228 #[.int .i32 c,.pointer (some ⟨b,0,none⟩)] w fun e w'=>e = .returned (.bool (letterB first c))∧Bel w w':=by
 by_cases h1:c=95
 ·subst h1
  cases first
  all_goals
   go_enter Tryz.func228,Tryz.ntmps228
   go_wp2
   go_ret
   exact ⟨rfl,by (repeat (first | exact Below.refl _ _ | assumption | exact Bel.refl _ | refine Bel.alloc ?_ _ | refine Bel.drew ?_ | refine Bel.drewN ?_ _ | refine Bel.then_ ?_ (by assumption) | refine Bel.setCell ?_ (by first | (simp;done) | (simp;omega)) _))⟩
 ·have b1:(c == 95)=false:=by simp;exact h1
  by_cases h2 : 48≤c
  ·by_cases h3:c≤57
   ·have e1:letterB first c = !first:=by unfold letterB;rw [if_pos (.inr ⟨h2,h3⟩)]
    rw [e1]
    cases first
    all_goals
     go_enter Tryz.func228,Tryz.ntmps228
     go_wp2
     go_ret
     exact ⟨rfl,by (repeat (first | exact Below.refl _ _ | assumption | exact Bel.refl _ | refine Bel.alloc ?_ _ | refine Bel.drew ?_ | refine Bel.drewN ?_ _ | refine Bel.then_ ?_ (by assumption) | refine Bel.setCell ?_ (by first | (simp;done) | (simp;omega)) _))⟩
   ·have e1:letterB first c=decide (97≤c∧c≤122):=by unfold letterB;rw [if_neg (by omega)]
    rw [e1]
    by_cases h4 : 97≤c
    ·by_cases h5:c≤122
     ·rw [decide_eq_true ⟨h4,h5⟩]
      go_enter Tryz.func228,Tryz.ntmps228
      go_wp2
      go_ret
      exact ⟨rfl,by (repeat (first | exact Below.refl _ _ | assumption | exact Bel.refl _ | refine Bel.alloc ?_ _ | refine Bel.drew ?_ | refine Bel.drewN ?_ _ | refine Bel.then_ ?_ (by assumption) | refine Bel.setCell ?_ (by first | (simp;done) | (simp;omega)) _))⟩
     ·rw [decide_eq_false (by omega)]
      go_enter Tryz.func228,Tryz.ntmps228
      go_wp2
      go_ret
      exact ⟨rfl,by (repeat (first | exact Below.refl _ _ | assumption | exact Bel.refl _ | refine Bel.alloc ?_ _ | refine Bel.drew ?_ | refine Bel.drewN ?_ _ | refine Bel.then_ ?_ (by assumption) | refine Bel.setCell ?_ (by first | (simp;done) | (simp;omega)) _))⟩
    ·rw [decide_eq_false (by omega)]
     go_enter Tryz.func228,Tryz.ntmps228
     go_wp2
     go_ret
     exact ⟨rfl,by (repeat (first | exact Below.refl _ _ | assumption | exact Bel.refl _ | refine Bel.alloc ?_ _ | refine Bel.drew ?_ | refine Bel.drewN ?_ _ | refine Bel.then_ ?_ (by assumption) | refine Bel.setCell ?_ (by first | (simp;done) | (simp;omega)) _))⟩
  ·have e1:letterB first c=decide (97≤c∧c≤122):=by unfold letterB;rw [if_neg (by omega)]
   rw [e1,decide_eq_false (by omega)]
   have h4 : ¬ 97≤c:=by omega
   go_enter Tryz.func228,Tryz.ntmps228
   go_wp2
   go_ret
   exact ⟨rfl,by (repeat (first | exact Below.refl _ _ | assumption | exact Bel.refl _ | refine Bel.alloc ?_ _ | refine Bel.drew ?_ | refine Bel.drewN ?_ _ | refine Bel.then_ ?_ (by assumption) | refine Bel.setCell ?_ (by first | (simp;done) | (simp;omega)) _))⟩
theorem letter_any (first:Bool) (w:World):Calls Tryz.prog 217 #[.bool first] w fun e w'=>e = .returned (.func (.func 228) #[] #[.pointer (some ⟨w.heap.size,0,none⟩)])∧Bel w w'∧w'.cell? ⟨w.heap.size,0,none⟩=some (.bool first):=by
 go_enter Tryz.func217,Tryz.ntmps217
 go_wp2
 go_ret
 exact ⟨rfl,by (repeat (first | exact Below.refl _ _ | assumption | exact Bel.refl _ | refine Bel.alloc ?_ _ | refine Bel.drew ?_ | refine Bel.drewN ?_ _ | refine Bel.then_ ?_ (by assumption) | refine Bel.setCell ?_ (by first | (simp;done) | (simp;omega)) _)),by go_simp⟩
def RuneP (g:Nat) (lb:Array Value) (p:Int→Bool) (w:World):Prop:=∀ W,Bel w W → ∀ c:Int,Calls Tryz.prog g (#[.int .i32 c] ++ lb) W fun e w'=>e = .returned (.bool (p c))∧Bel W w'
def idxR (p:Int→Bool) (s:ByteArray):Nat→Nat→Int
 | 0,_=>-1
 | f+1,pos=>if pos<s.size then (if p (Utf8.decode s pos).1=true then (pos:Int) else idxR p s f (pos+(Utf8.decode s pos).2)) else -1
theorem idxR_end (p:Int→Bool) (s:ByteArray) (f pos:Nat) (h : ¬ pos<s.size):idxR p s f pos = -1:=by cases f <;> simp [idxR,h]
set_option maxHeartbeats 2000000 in
theorem indexFunc_any (g:Nat) (lb:Array Value) (eg : ∀ args w,(callFunc g args).run Tryz.prog w = .ok (.enter g args) w) (p:Int→Bool) (s:ByteArray) (w:World) (hp:RuneP g lb p w) :
 Calls Tryz.prog 232 #[.string s,.func (.func g) #[] lb,.bool true] w fun e w'=>e = .returned (.int .i64 (idxR p s s.size 0))∧Bel w w':=by
 have HP:=Lib.hid hp
 clear hp
 go_enter Tryz.func232,Tryz.ntmps232
 go_wp2
 go_loopg [] s.size (fun gf wx=>∃ pos:Nat,wx.heap[w.heap.size]? = some (.stringIter s pos)∧Bel w wx∧idxR p s gf pos=idxR p s s.size 0∧s.size≤pos+gf)
 case atStart=>exact ⟨0,World.iter_heap w s 0,(Below.refl _ w).alloc (Nat.le_refl _) _,rfl,by omega⟩
 case round =>
  obtain ⟨pos,hit,hbw,hleft,hfu⟩:=hrel
  by_cases hps:pos<s.size
  ·obtain ⟨g',rfl⟩ : ∃ g',gk=g'+1:=⟨gk - 1,by omega⟩
   have hnx : ∀ ty,(Instr.next (.pointer (some ⟨w.heap.size,0,none⟩)) true ty).run Tryz.prog wr=_:=fun ty=>Lib.run_next_any_at wr w.heap.size s pos ty hit hps
   have hwd:=Lib.width_pos s pos
   obtain ⟨R,hR⟩ : ∃ R,(Utf8.decode s pos).1=R:=⟨_,rfl⟩
   obtain ⟨K,hK⟩ : ∃ K,(Utf8.decode s pos).2=K:=⟨_,rfl⟩
   simp only [idxR,hps,if_true,hR,hK] at hleft
   rw [hR,hK] at hnx
   rw [hK] at hwd
   have hit2:=Lib.iterAt_heap wr w.heap.size s pos (pos+K) hit
   have hbw2:Bel w (wr.iterAt w.heap.size s (pos+K)):=Lib.below_iterAt hbw (k:=w.heap.size) (Nat.le_refl _) s (pos+K)
   obtain ⟨W,hWd⟩ : ∃ W,wr.iterAt w.heap.size s (pos+K)=W:=⟨_,rfl⟩
   rw [hWd] at hnx hit2 hbw2
   have cS:Calls Tryz.prog g (#[.int .i32 (R:Int)] ++ lb) W _:=HP.out W hbw2 R
   have hsz:w.heap.size<W.heap.size:=(Array.getElem?_eq_some_iff.1 hit2).1
   cases hsp:p R <;> rw [hsp] at cS <;> simp only [hsp,if_true,Bool.false_eq_true,if_false] at hleft
   ·go_wp2_with (go_at_fn g;refine cS.mono ?_;rintro e W' ⟨rfl,hq⟩)
    go_roundg g'
    case measure=>omega
    case rel=>exact ⟨pos+K,(hq.block w.heap.size hsz).trans hit2,hbw2.then_ hq,hleft,by omega⟩
   ·go_wp2_with (go_at_fn g;refine cS.mono ?_;rintro e W' ⟨rfl,hq⟩)
    go_ret
    exact ⟨by rw [← hleft] <;> rfl,hbw2.then_ hq⟩
  ·have hnx : ∀ ty,(Instr.next (.pointer (some ⟨w.heap.size,0,none⟩)) true ty).run Tryz.prog wr=_:=fun ty=>Lib.run_next_end_at wr w.heap.size s pos ty hit hps
   rw [idxR_end p s gk pos hps] at hleft
   go_wp2
   go_ret
   exact ⟨by rw [← hleft] <;> rfl,hbw⟩
theorem ContainsFunc_any (g:Nat) (lb:Array Value) (eg : ∀ args w,(callFunc g args).run Tryz.prog w = .ok (.enter g args) w) (p:Int→Bool) (s:ByteArray) (w:World) (hp:RuneP g lb p w) :
 Calls Tryz.prog 218 #[.string s,.func (.func g) #[] lb] w fun e w'=>e = .returned (.bool (decide (0≤idxR p s s.size 0)))∧Bel w w':=by
 have HI:=Lib.hid (indexFunc_any g lb eg p s w hp)
 clear hp eg
 go_enter Tryz.func218,Tryz.ntmps218
 go_wp2_with (first | (go_at_call 232;refine HI.out.mono ?_;rintro e w1 ⟨rfl,hb⟩) | (go_at_call 229;go_in))
 go_ret
 exact ⟨rfl,hb⟩
theorem namedC_any (c:Int) (bo b:Nat) (w:World) (ho:w.cell? ⟨bo,0,none⟩=some (.func (.func 228) #[] #[.pointer (some ⟨b,0,none⟩)])) (hb:w.cell? ⟨b,0,none⟩=some (.bool false)) :
 Calls Tryz.prog 219 #[.int .i32 c,.pointer (some ⟨bo,0,none⟩)] w fun e w'=>e = .returned (.bool (!letterB false c))∧Bel w w':=by
 have H:=Lib.hid (letterC_any false c b w hb)
 have eg : ∀ args w,(callFunc 228 args).run Tryz.prog w = .ok (.enter 228 args) w:=enters_of Tryz.func228 (by kernel_rfl) rfl
 clear hb
 go_enter Tryz.func219,Tryz.ntmps219
 go_wp2_with (go_at_fn 228;refine H.out.mono ?_;rintro e w1 ⟨rfl,hb⟩)
 go_ret
 exact ⟨rfl,hb⟩
def runesFine (s:ByteArray):Bool:=!decide (0≤idxR (fun c=>!letterB false c) s s.size 0)
def namedB (s:ByteArray):Bool:=if h : 1≤s.size∧s.size≤24 then letterB true (s[0]'(by omega)).toNat && runesFine s else false
set_option maxHeartbeats 2000000 in
theorem named_any (s:ByteArray) (w:World):Calls Tryz.prog 194 #[.string s] w fun e w'=>e = .returned (.bool (namedB s))∧Bel w w':=by
 have eg : ∀ args w,(callFunc 228 args).run Tryz.prog w = .ok (.enter 228 args) w:=enters_of Tryz.func228 (by kernel_rfl) rfl
 have eg2 : ∀ args w,(callFunc 219 args).run Tryz.prog w = .ok (.enter 219 args) w:=enters_of Tryz.func219 (by kernel_rfl) rfl
 have HL:=Lib.hid (letter_any false w)
 obtain ⟨R,hR⟩ : ∃ R,R=namedB s:=⟨_,rfl⟩
 rw [← hR]
 go_enter Tryz.func194,Tryz.ntmps194
 go_wp2_with (go_at_call 217;refine HL.out.mono ?_;rintro e w1 ⟨rfl,hb1,hc1⟩)
 obtain ⟨w2,hw2⟩ : ∃ w2,w2=w1.alloc (.cells #[.func (.func 228) #[] #[.pointer (some ⟨w.heap.size,0,none⟩)]] 269):=⟨_,rfl⟩
 rw [← hw2]
 have hb2:Bel w w2:=by rw [hw2];exact hb1.then_ ((Bel.refl w1).alloc _)
 have hc2:w2.cell? ⟨w1.heap.size,0,none⟩=some (.func (.func 228) #[] #[.pointer (some ⟨w.heap.size,0,none⟩)]):=by rw [hw2];go_simp
 have hd2:w2.cell? ⟨w.heap.size,0,none⟩=some (.bool false):=by
  have h3:Bel w1 w2:=by rw [hw2];exact (Bel.refl w1).alloc _
  exact h3.c hc1
 have HB2:=Lib.hid hb2
 have HN:=Lib.hid (fun V (hV:Bel w2 V)=>ContainsFunc_any 219 #[.pointer (some ⟨w1.heap.size,0,none⟩)] eg2 (fun c=>!letterB false c) s V (fun W hW c=>namedC_any c w1.heap.size w.heap.size W ((hV.then_ hW).c hc2) ((hV.then_ hW).c hd2)))
 clear hb1 hc1 hw2 hb2 hc2 hd2 HL
 by_cases h1 : 1≤s.size
 ·have h1I:(1:Int)≤s.size:=by omega
  by_cases h2:s.size≤24
  ·have h2I:(s.size:Int)≤24:=by omega
   obtain ⟨c0,hc0⟩ : ∃ c0,c0=letterB true (s[0]'(by omega)).toNat:=⟨_,rfl⟩
   have hnb:namedB s=(c0 && runesFine s):=by unfold namedB;rw [dif_pos ⟨h1,h2⟩,hc0]
   rw [hnb] at hR
   clear hnb
   have h00 : 0<s.size:=by omega
   have hwr:IntKind.i32.wrap ((s[0]'(by omega)).toNat:Int)=(s[0]'(by omega)).toNat:=by
    have:=UInt8.toNat_lt (s[0]'(by omega))
    simp [IntKind.wrap,IntKind.bits,IntKind.signed]
    omega
   cases c0
   ·have hlt:letterB true ((s[0]'(by omega)).toNat:Int)=false:=hc0.symm
    have HLX:=Lib.hid (fun (V:World) b (h:V.cell? ⟨b,0,none⟩=some (.bool true))=>letterC_any true ((s[0]'(by omega)).toNat:Int) b V h)
    rw [hlt] at HLX
    clear hc0 hlt
    simp only [Bool.false_and] at hR
    refine wp_region_noPanic ?_
    refine wp_region_held_drew (S:=(fun V:World=>Bel w2 V)) (by kernel_rfl) ?_ (fun hHr1_0=>?_)
    ·(try dsimp only);(first | assumption | exact (Bel.refl w2).drew | exact Bel.then_ (by assumption) (by assumption))
    refine tk 0 ?_
    refine tk 1 ?_
    refine tk 2 ?_
    refine tk 3 ?_
    refine tk 4 ?_
    refine tk 5 ?_
    refine tk 6 ?_
    refine tk 7 ?_
    refine tk 8 ?_
    refine tk 10 ?_
    refine tk 11 ?_
    refine tk 12 ?_
    refine rd1 9 (fun K hK=>?_)
    go_simp
    (go_at_call 217;refine (letter_any true _).mono ?_;rintro e w3 ⟨rfl,hb3,hc3⟩)
    try (go_wp2_with fail)
    refine hK.out _ _ ?_ (fun hHr1_1=>?_)
    ·(try dsimp only);(first | assumption | exact (Bel.refl w2).drew | exact Bel.then_ (by assumption) (by assumption))
    clear hK K hHr1_0
    try simp only [tkp0,tkp1,tkp2,tkp3,tkp4,tkp5,tkp6,tkp7]
    refine rd1 13 (fun K hK=>?_)
    go_simp
    (go_at_fn 228;refine (HLX.out _ _ hc3).mono ?_;rintro e w4 ⟨rfl,hb4⟩)
    try (go_wp2_with fail)
    refine hK.out _ _ ?_ (fun hHr1_2=>?_)
    ·(try dsimp only);(first | assumption | exact (Bel.refl w2).drew | exact Bel.then_ (by assumption) (by assumption))
    clear hK K hHr1_1
    try simp only [tkp0,tkp1,tkp2,tkp3,tkp4,tkp5,tkp6,tkp7]
    refine tk 14 ?_
    refine tk 15 ?_
    refine tn 16 ?_
    refine tn 17 ?_
    refine tn 18 ?_
    refine tn 19 ?_
    refine tk 20 ?_
    refine tk 21 ?_
    refine wpAnyH_done (by kernel_rfl) ?_ _
    refine NoPanic.normal ?_
    go_wp2
    go_ret
    exact ⟨by rw [hR];rfl,HB2.out.then_ hHr1_2⟩
   ·have hlt:letterB true ((s[0]'(by omega)).toNat:Int)=true:=hc0.symm
    have HLX:=Lib.hid (fun (V:World) b (h:V.cell? ⟨b,0,none⟩=some (.bool true))=>letterC_any true ((s[0]'(by omega)).toNat:Int) b V h)
    rw [hlt] at HLX
    clear hc0 hlt
    simp only [Bool.true_and] at hR
    obtain ⟨D,hD⟩ : ∃ D,D=decide (0≤idxR (fun c=>!letterB false c) s s.size 0):=⟨_,rfl⟩
    rw [← hD] at HN
    have hRD:R = !D:=by rw [hR,hD];rfl
    clear hD hR
    refine wp_region_noPanic ?_
    refine wp_region_held_drew (S:=(fun V:World=>Bel w2 V)) (by kernel_rfl) ?_ (fun hHr2_0=>?_)
    ·(try dsimp only);(first | assumption | exact (Bel.refl w2).drew | exact Bel.then_ (by assumption) (by assumption))
    refine tk 0 ?_
    refine tk 1 ?_
    refine tk 2 ?_
    refine tk 3 ?_
    refine tk 4 ?_
    refine tk 5 ?_
    refine tk 6 ?_
    refine tk 7 ?_
    refine tk 8 ?_
    refine tk 10 ?_
    refine tk 11 ?_
    refine tk 12 ?_
    refine rd1 9 (fun K hK=>?_)
    go_simp
    (go_at_call 217;refine (letter_any true _).mono ?_;rintro e w3 ⟨rfl,hb3,hc3⟩)
    try (go_wp2_with fail)
    refine hK.out _ _ ?_ (fun hHr2_1=>?_)
    ·(try dsimp only);(first | assumption | exact (Bel.refl w2).drew | exact Bel.then_ (by assumption) (by assumption))
    clear hK K hHr2_0
    try simp only [tkp0,tkp1,tkp2,tkp3,tkp4,tkp5,tkp6,tkp7]
    refine rd1 13 (fun K hK=>?_)
    go_simp
    (go_at_fn 228;refine (HLX.out _ _ hc3).mono ?_;rintro e w4 ⟨rfl,hb4⟩)
    try (go_wp2_with fail)
    refine hK.out _ _ ?_ (fun hHr2_2=>?_)
    ·(try dsimp only);(first | assumption | exact (Bel.refl w2).drew | exact Bel.then_ (by assumption) (by assumption))
    clear hK K hHr2_1
    try simp only [tkp0,tkp1,tkp2,tkp3,tkp4,tkp5,tkp6,tkp7]
    refine tk 14 ?_
    refine tk 15 ?_
    refine tk 16 ?_
    refine tk 17 ?_
    refine rd1 18 (fun K hK=>?_)
    go_simp
    (go_at_call 218;refine (HN.out _ (by assumption)).mono ?_;rintro e w5 ⟨rfl,hb5⟩)
    try (go_wp2_with fail)
    refine hK.out _ _ ?_ (fun hHr2_3=>?_)
    ·(try dsimp only);(first | assumption | exact (Bel.refl w2).drew | exact Bel.then_ (by assumption) (by assumption))
    clear hK K hHr2_2
    try simp only [tkp0,tkp1,tkp2,tkp3,tkp4,tkp5,tkp6,tkp7]
    refine tk 19 ?_
    refine tk 20 ?_
    refine tk 21 ?_
    refine wpAnyH_done (by kernel_rfl) ?_ _
    refine NoPanic.normal ?_
    go_wp2
    go_ret
    exact ⟨by rw [hRD];rfl,HB2.out.then_ hHr2_3⟩
  ·have h2I:decide ((s.size:Int)≤24)=false:=by simp;omega
   have hR2:R=false:=by rw [hR];unfold namedB;rw [dif_neg (by omega)]
   subst hR2
   clear hR
   refine wp_region_noPanic ?_
   refine wp_region_held_drew (S:=(fun V:World=>Bel w2 V)) (by kernel_rfl) ?_ (fun hHr3_0=>?_)
   ·(try dsimp only);(first | assumption | exact (Bel.refl w2).drew)
   refine tk 0 ?_
   refine tk 1 ?_
   refine tk 2 ?_
   refine tk 3 ?_
   refine tk 4 ?_
   refine tk 5 ?_
   refine tk 6 ?_
   refine tk 7 ?_
   refine tk 8 ?_
   refine tn 9 ?_
   refine tn 10 ?_
   refine tn 11 ?_
   refine tn 12 ?_
   refine tn 13 ?_
   refine tk 14 ?_
   refine tk 15 ?_
   refine tn 16 ?_
   refine tn 17 ?_
   refine tn 18 ?_
   refine tn 19 ?_
   refine tk 20 ?_
   refine tk 21 ?_
   refine wpAnyH_done (by kernel_rfl) ?_ _
   refine NoPanic.normal ?_
   go_wp2
   go_ret
   exact ⟨rfl,HB2.out.then_ hHr3_0⟩
 ·have h2I:decide ((1:Int)≤s.size)=false:=by simp;omega
  have h3I:decide (1≤s.size)=false:=by rw [decide_eq_false_iff_not];exact h1
  have hR2:R=false:=by rw [hR];unfold namedB;rw [dif_neg (by omega)]
  subst hR2
  clear hR
  refine wp_region_noPanic ?_
  refine wp_region_held_drew (S:=(fun V:World=>Bel w2 V)) (by kernel_rfl) ?_ (fun hHr4_0=>?_)
  ·(try dsimp only);(first | assumption | exact (Bel.refl w2).drew)
  refine tk 0 ?_
  refine tk 1 ?_
  refine tk 2 ?_
  refine tk 3 ?_
  refine tn 4 ?_
  refine tn 5 ?_
  refine tn 6 ?_
  refine tk 7 ?_
  refine tk 8 ?_
  refine tn 9 ?_
  refine tn 10 ?_
  refine tn 11 ?_
  refine tn 12 ?_
  refine tn 13 ?_
  refine tk 14 ?_
  refine tk 15 ?_
  refine tn 16 ?_
  refine tn 17 ?_
  refine tn 18 ?_
  refine tn 19 ?_
  refine tk 20 ?_
  refine tk 21 ?_
  refine wpAnyH_done (by kernel_rfl) ?_ _
  refine NoPanic.normal ?_
  go_wp2
  go_ret
  exact ⟨rfl,HB2.out.then_ hHr4_0⟩
end
end Go.Proofs.YtnajjhgbombboaaGreatDoor
