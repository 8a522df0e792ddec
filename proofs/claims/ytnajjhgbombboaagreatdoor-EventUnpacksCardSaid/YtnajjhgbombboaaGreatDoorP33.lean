/-
  Texts behind the statement: part 33.
-/
import Derived.Test.YtnajjhgbombboaaGreatDoorP7
import Derived.Deep.RegionWith
import Derived.Laws.RangeAny
import Derived.Deep.OwnRows
import Derived.Lib.ConvBytes
set_option linter.unusedVariables false
set_option linter.unusedSimpArgs false
namespace Go.Proofs.YtnajjhgbombboaaGreatDoor
section
open Go.RowKit
theorem bl_zero:bl 0=0:=rfl
open Go.RowKit
open Go.RowKit
open Go.RowKit
end
section
open Go.RowKit Go.Shelf Go.Lib
attribute [local go_sem] Oper.semAt_some
set_option maxHeartbeats 2000000 in
theorem tName_any (s:ByteArray) (hm:s.size≤9223372036854775807) (w:World):Calls Tryz.prog 64 #[.string s] w fun e w'=>e = .returned (.bool (namedB s))∧w=w':=by
 obtain ⟨R,hR⟩ : ∃ R,R=namedB s:=⟨_,rfl⟩
 rw [← hR]
 have HR:Hid (R=true ↔ (1≤s.size∧s.size≤24) ∧ ∀ i (h:i<s.size),letterB (decide (i=0)) ((s[i]'h).toNat:Int)=true):=by rw [hR];exact namedB_iff s
 clear hR
 have hmI:(s.size:Int)≤9223372036854775807:=by omega
 go_enter Tryz.func64,Tryz.ntmps64
 go_wp2
 go_loopw [3] (fun i wr=>∃ k:Nat,k≤s.size∧i = .int .i64 k∧wr=w∧Hid (∀ j (h:j<s.size),j<k→letterB (decide (j=0)) ((s[j]'h).toNat:Int)=true)) (fun i _=>s.size - (intOf i).toNat)
 case atStart=>exact ⟨0,Nat.zero_le _,rfl,rfl,fun j h hj=>by omega⟩
 case round =>
  obtain ⟨k,hk,rfl,hwr,HT⟩:=hrel
  have hwr':=hwr.symm
  clear hwr
  subst hwr'
  by_cases hlt:k<s.size
  ·have hltI:(k:Int)<s.size:=by omega
   have hkI:(0:Int)≤k:=by omega
   have HOK:Hid (letterB (decide (k=0)) ((s[k]'hlt).toNat:Int)=true → ∀ j (h:j<s.size),j<k+1→letterB (decide (j=0)) ((s[j]'h).toNat:Int)=true):=fun hl j h hj=>by
    by_cases e:j=k
    ·subst e;exact hl
    ·exact HT.out j h (by omega)
   have HNO:Hid (letterB (decide (k=0)) ((s[k]'hlt).toNat:Int)=false→R=false):=fun hl=>by
    cases hR:R with
    | false=>rfl
    | true=>have:=(HR.out.1 hR).2 k hlt;rw [hl] at this;cases this
   have hxx:=UInt8.toNat_lt (s[k]'hlt)
   generalize hx:(s[k]'hlt).toNat=x at *
   by_cases hA : 97≤x∧x≤122
   ·have hL:letterB (decide (k=0)) (x:Int)=true:=by unfold letterB;rw [if_neg (by omega),decide_eq_true (by omega)]
    have a1:(97:Int)≤x:=by omega
    have a2:(x:Int)≤122:=by omega
    go_wp2
    go_roundw
    case rel=>exact ⟨k+1,by omega,by go_num,by first | rfl | trivial,HOK.out hL⟩
    case measure=>simp [intOf];omega
   ·have hnl:(decide ((97:Int)≤x) && decide ((x:Int)≤122))=false:=by simp;omega
    by_cases hk0:k=0
    ·subst hk0
     have hL:letterB (decide ((0:Nat)=0)) (x:Int)=false:=by
      unfold letterB
      split
      ·rfl
      ·rw [decide_eq_false (by omega)]
     by_cases a1:(97:Int)≤x
     ·have a2:decide ((x:Int)≤122)=false:=by simp;omega
      go_wp2
      go_ret
      exact ⟨by first | rfl | (rw [HNO.out hL];rfl),rfl⟩
     ·have a2:decide ((97:Int)≤x)=false:=by simp;omega
      go_wp2
      go_ret
      exact ⟨by first | rfl | (rw [HNO.out hL];rfl),rfl⟩
    ·have hk0b:((k:Int) == 0)=false:=by rw [beq_eq_false_iff_ne];omega
     by_cases hU:x=95
     ·subst hU
      have hL:letterB (decide (k=0)) ((95:Nat):Int)=true:=by unfold letterB;rw [if_pos (.inl rfl),decide_eq_false hk0];rfl
      go_wp2
      go_roundw
      case rel=>exact ⟨k+1,by omega,by go_num,by first | rfl | trivial,HOK.out hL⟩
      case measure=>simp [intOf];omega
     ·have hUb:((x:Int) != 95)=true:=by rw [bne_iff_ne];omega
      by_cases hD : 48≤x∧x≤57
      ·have hL:letterB (decide (k=0)) (x:Int)=true:=by unfold letterB;rw [if_pos (.inr (by omega)),decide_eq_false hk0];rfl
       have a1:decide ((97:Int)≤x)=false:=by simp;omega
       have a3:decide ((x:Int)<48)=false:=by simp;omega
       have a4:decide ((57:Int)<x)=false:=by simp;omega
       go_wp2
       go_roundw
       case rel=>exact ⟨k+1,by omega,by go_num,by first | rfl | trivial,HOK.out hL⟩
       case measure=>simp [intOf];omega
      ·have hL:letterB (decide (k=0)) (x:Int)=false:=by unfold letterB;rw [if_neg (by omega),decide_eq_false (by omega)]
       by_cases a1:(97:Int)≤x
       ·have a2:decide ((x:Int)≤122)=false:=by simp;omega
        have a3:decide ((x:Int)<48)=false:=by simp;omega
        have a4:(57:Int)<x:=by omega
        go_wp2
        go_ret
        exact ⟨by first | rfl | (rw [HNO.out hL];rfl),rfl⟩
       ·have a2:decide ((97:Int)≤x)=false:=by simp;omega
        by_cases a3:(x:Int)<48
        ·go_wp2
         go_ret
         exact ⟨by first | rfl | (rw [HNO.out hL];rfl),rfl⟩
        ·have a4:(57:Int)<x:=by omega
         have a5:decide ((x:Int)<48)=false:=by simp;omega
         go_wp2
         go_ret
         exact ⟨by first | rfl | (rw [HNO.out hL];rfl),rfl⟩
  ·obtain rfl:k=s.size:=by omega
   have HT2:Hid (∀ i (h:i<s.size),letterB (decide (i=0)) ((s[i]'h).toNat:Int)=true):=fun i h=>HT.out i h h
   clear HT hlt hk
   by_cases h1 : 1≤s.size
   ·have h1I:(1:Int)≤s.size:=by omega
    by_cases h2:s.size≤24
    ·have h2I:(s.size:Int)≤24:=by omega
     have hRt:R=true:=HR.out.2 ⟨⟨h1,h2⟩,HT2.out⟩
     go_wp2
     go_ret
     exact ⟨by rw [hRt];rfl,rfl⟩
    ·have h2I:decide ((s.size:Int)≤24)=false:=by simp;omega
     have hRf:R=false:=by
      cases hR:R with
      | false=>rfl
      | true=>exact absurd (HR.out.1 hR).1.2 h2
     go_wp2
     go_ret
     exact ⟨by rw [hRf];rfl,rfl⟩
   ·have h2I:decide ((1:Int)≤s.size)=false:=by simp;omega
    have h3I:decide (1≤s.size)=false:=by rw [decide_eq_false_iff_not];exact h1
    have hRf:R=false:=by
     cases hR:R with
     | false=>rfl
     | true=>exact absurd (HR.out.1 hR).1.1 h1
    go_wp2
    go_ret
    exact ⟨by rw [hRf];rfl,rfl⟩
theorem toList_nil_iff (b:ByteArray):b.toList=[] ↔ b=⟨#[]⟩:=by
 rw [← bytes_eq_iff,show (⟨#[]⟩:ByteArray).toList=[] by rw [ByteArray.toList_eq]]
theorem checkI_eq (k n u:Int) (b:ByteArray):checkI ⟨k,n,u,b⟩=if k<0 ∨ 4<k ∨ (k ≠ 1∧k ≠ 3∧n ≠ 0) ∨ (k ≠ 2∧u ≠ 0) ∨ (k ≠ 4∧b ≠ ⟨#[]⟩) ∨ (k=3∧n ≠ 0∧n ≠ 1) then 2 else if 200<b.size then 3 else 0:=by
 unfold checkI mayB Val.bare
 dsimp only
 have e:(k<0 ∨ 4<k ∨ (⟨k,n,u,b⟩:Val) ≠ ⟨k,if k=1 ∨ k=3 then n else 0,if k=2 then u else 0,if k=4 then b else ⟨#[]⟩⟩ ∨ decide (k=3→n=0 ∨ n=1)=false) ↔ (k<0 ∨ 4<k ∨ (k ≠ 1∧k ≠ 3∧n ≠ 0) ∨ (k ≠ 2∧u ≠ 0) ∨ (k ≠ 4∧b ≠ ⟨#[]⟩) ∨ (k=3∧n ≠ 0∧n ≠ 1)):=by
  by_cases h0:k<0
  ·simp [h0]
  ·by_cases h4 : 4<k
   ·simp [h4]
   ·have hc:k=0 ∨ k=1 ∨ k=2 ∨ k=3 ∨ k=4:=by omega
    by_cases hn:n=0 <;> by_cases hu:u=0 <;> by_cases hb:b=⟨#[]⟩ <;> by_cases hn1:n=1 <;> rcases hc with rfl | rfl | rfl | rfl | rfl <;> simp [hn,hu,hb,hn1] <;> omega
 simp only [e]
set_option maxHeartbeats 4000000 in
theorem vrCheck_any (x:Val) (w:World):Calls Tryz.prog 114 #[x.v] w fun e w'=>e = .returned (.int .i64 (checkI x))∧Bel w w':=by
 obtain ⟨k,n,u,b⟩:=x
 unfold Val.v
 dsimp only
 obtain ⟨R,hR⟩ : ∃ R,R=checkI ⟨k,n,u,b⟩:=⟨_,rfl⟩
 rw [← hR]
 rw [checkI_eq] at hR
 have HR:=Lib.hid hR
 clear hR
 by_cases hk0:k<0
 ·rw [if_pos (.inl hk0)] at HR
  go_enter Tryz.func114,Tryz.ntmps114
  go_wp2
  go_ret
  exact ⟨by rw [HR.out];rfl,by (repeat (first | exact Below.refl _ _ | assumption | exact Bel.refl _ | refine Bel.alloc ?_ _ | refine Bel.drew ?_ | refine Bel.drewN ?_ _ | refine Bel.then_ ?_ (by assumption) | refine Bel.setCell ?_ (by first | (simp;done) | (simp;omega)) _))⟩
 ·by_cases hk4 : 4<k
  ·rw [if_pos (.inr (.inl hk4))] at HR
   have hk0b:decide (k<0)=false:=by simp;omega
   go_enter Tryz.func114,Tryz.ntmps114
   go_wp2
   go_ret
   exact ⟨by rw [HR.out];rfl,by (repeat (first | exact Below.refl _ _ | assumption | exact Bel.refl _ | refine Bel.alloc ?_ _ | refine Bel.drew ?_ | refine Bel.drewN ?_ _ | refine Bel.then_ ?_ (by assumption) | refine Bel.setCell ?_ (by first | (simp;done) | (simp;omega)) _))⟩
  ·have hc:k=0 ∨ k=1 ∨ k=2 ∨ k=3 ∨ k=4:=by omega
   clear hk0 hk4
   rcases hc with rfl | rfl | rfl | rfl | rfl
   all_goals
    go_enter Tryz.func114,Tryz.ntmps114
    go_wp2
    all_goals
     have e:=HR.out
     clear HR
     go_ret
     refine ⟨?_,by (repeat (first | exact Below.refl _ _ | assumption | exact Bel.refl _ | refine Bel.alloc ?_ _ | refine Bel.drew ?_ | refine Bel.drewN ?_ _ | refine Bel.then_ ?_ (by assumption) | refine Bel.setCell ?_ (by first | (simp;done) | (simp;omega)) _))⟩
     show Ending.returned (Value.int .i64 _)=_
     try simp only [toList_nil_iff] at *
     rw [e]
     simp_all
     try omega
end
section
open Go.RowKit Go.Shelf Go.Lib
attribute [local go_sem] Oper.semAt_some
set_option maxHeartbeats 4000000 in
theorem tcolumn_any (c:Col) (hm:c.name.size≤9223372036854775807) (w:World):Calls Tryz.prog 116 #[c.v] w fun e w'=>e = .returned (.bool (rightB c))∧Bel w w':=by
 obtain ⟨name,t,z,null⟩:=c
 obtain ⟨nb,hnb⟩ : ∃ nb,nb=namedB name:=⟨_,rfl⟩
 have HNM:=Lib.hid (fun V=>tName_any name hm V)
 rw [← hnb] at HNM
 have hR:rightB ⟨name,t,z,null⟩=(decide (1≤t∧t≤4) && nb && sizeB t z):=by unfold rightB;rw [hnb]
 rw [hR]
 clear hR hnb hm
 unfold Col.v
 dsimp only
 by_cases ht : 1≤t∧t≤4
 ·have hc:t=1 ∨ t=2 ∨ t=3 ∨ t=4:=by omega
  clear ht
  rcases hc with rfl | rfl | rfl | rfl
  all_goals
   cases nb
   all_goals
    simp only [Bool.and_false,Bool.false_and,Bool.and_true,Bool.true_and,sizeB]
    go_enter Tryz.func116,Tryz.ntmps116
    go_wp2_with (go_at_call 64;refine (HNM.out _).mono ?_;rintro e w' ⟨rfl,rfl⟩)
    all_goals
     go_ret
     refine ⟨?_,by (repeat (first | exact Below.refl _ _ | assumption | exact Bel.refl _ | refine Bel.alloc ?_ _ | refine Bel.drew ?_ | refine Bel.drewN ?_ _ | refine Bel.then_ ?_ (by assumption) | refine Bel.setCell ?_ (by first | (simp;done) | (simp;omega)) _))⟩
     show Ending.returned (Value.bool _)=_
     simp_all
     try first | omega | (rw [Bool.eq_iff_iff];simp;done) | (rw [Bool.eq_iff_iff];simp;omega)
 ·rw [decide_eq_false ht]
  have h1:(t == 1)=false:=by rw [beq_eq_false_iff_ne];omega
  have h2:(t == 2)=false:=by rw [beq_eq_false_iff_ne];omega
  have h3:(t == 3)=false:=by rw [beq_eq_false_iff_ne];omega
  have h4:(t == 4)=false:=by rw [beq_eq_false_iff_ne];omega
  clear ht
  go_enter Tryz.func116,Tryz.ntmps116
  go_wp2_with fail
  go_ret
  exact ⟨rfl,by (repeat (first | exact Below.refl _ _ | assumption | exact Bel.refl _ | refine Bel.alloc ?_ _ | refine Bel.drew ?_ | refine Bel.drewN ?_ _ | refine Bel.then_ ?_ (by assumption) | refine Bel.setCell ?_ (by first | (simp;done) | (simp;omega)) _))⟩
end
section
open Go.RowKit Go.Shelf Go.Lib
attribute [local go_sem] Oper.semAt_some
set_option maxRecDepth 100000 in
set_option maxHeartbeats 4000000 in
theorem tset_any (v:Value) (l:List Int) (many:Nat) (w:World) (h:IntsAt w v l):Calls Tryz.prog 115 #[v,.int .i64 many] w fun e w'=>e = .returned (.bool (setB l many))∧Bel w w':=by
 obtain ⟨R,hR⟩ : ∃ R,R=setB l many:=⟨_,rfl⟩
 rw [← hR]
 have HR:=Lib.hid hR
 clear hR
 obtain ⟨A,c,rfl,hcl,hm,hr⟩:=h
 have hlI:(l.length:Int)≤9223372036854775807:=by unfold maxLen at hm;omega
 have HRR:=Lib.hid hr
 clear hr hm
 go_enter Tryz.func115,Tryz.ntmps115
 go_wp2
 go_loopw [5] (fun i wr=>∃ k:Nat,k≤l.length∧k≤5∧i = .int .i64 k∧Hid (∀ j,j<k→inB l many j=true)∧Hid (Bel w wr)) (fun i _=>5 - (intOf i).toNat)
 case atStart=>exact ⟨0,Nat.zero_le _,by omega,rfl,fun j hj=>by omega,Bel.refl w⟩
 case round =>
  obtain ⟨k,hk,hk5,rfl,HT,HB⟩:=hrel
  by_cases hlt:k<l.length∧k<5
  ·obtain ⟨hltl,hlt5⟩:=hlt
   obtain ⟨x,hx⟩ : ∃ x,l[k]? = some x:=⟨_,List.getElem?_eq_getElem hltl⟩
   obtain ⟨b,off,rfl,hi⟩:=HRR.out (by omega)
   have hc1:=HB.out.c (hi k x hx)
   have HI:=Lib.hid hi
   have hkI:(k:Int)<l.length:=by omega
   have hk5I:(k:Int)<5:=by omega
   have hgx:l.getD k 0=x:=by simp [List.getD,hx]
   have HIN:Hid (inB l many k=decide (0≤x∧x<many∧x ∉ l.take k)):=by show _=_;unfold inB;rw [hgx]
   have HNX:Hid (inB l many k=true → ∀ j,j<k+1→inB l many j=true):=fun e j hj=>by
    by_cases ej:j=k
    ·subst ej;exact e
    ·exact HT.out j (by omega)
   have HNO:Hid (inB l many k=false→R=false):=fun e=>by rw [HR.out];exact setB_false hltl e
   clear hi hx hgx HRR
   by_cases hx0:x<0
   ·have hf:=HNO.out (by rw [HIN.out];exact decide_eq_false (by omega))
    go_wp2
    go_ret
    exact ⟨by first | rfl | (rw [hf];rfl),by first | exact HB.out | exact HB.out.then_ HBI.out.drew⟩
   ·have hx0b:decide (x<0)=false:=by simp;omega
    by_cases hxm:(many:Int)≤x
    ·have hf:=HNO.out (by rw [HIN.out];exact decide_eq_false (by omega))
     go_wp2
     go_ret
     exact ⟨by first | rfl | (rw [hf];rfl),by first | exact HB.out | exact HB.out.then_ HBI.out.drew⟩
    ·have hxmb:decide ((many:Int)≤x)=false:=by simp;omega
     go_wp2
     go_loopw [6] (fun i wi=>∃ j:Nat,j≤k∧i = .int .i64 j∧Hid (x ∉ l.take j)∧Hid (Bel wr wi)) (fun i _=>k - (intOf i).toNat)
     case atStart=>exact ⟨0,Nat.zero_le _,rfl,(by show _ ∉ _;simp),Bel.refl wr⟩
     case round =>
      rename_i wi
      obtain ⟨j,hj,rfl,HJ,HBI⟩:=hrel
      by_cases hjk:j<k
      ·obtain ⟨y,hy⟩ : ∃ y,l[j]? = some y:=⟨_,List.getElem?_eq_getElem (by omega)⟩
       have hcj:=(HBI.out.drew).c (HB.out.c (HI.out j y hy))
       have hck:=(HBI.out.drew).c hc1
       have hjI:(j:Int)<k:=by omega
       have hjl:(j:Int)<l.length:=by omega
       have HMEM:Hid (y ∈ l.take k):=List.mem_of_getElem? (i:=j) (by rw [List.getElem?_take,if_pos hjk];exact hy)
       have HJN:Hid (¬ x=y→x ∉ l.take (j+1)):=fun e=>by
        rw [List.take_add_one,hy]
        intro hm
        rcases List.mem_append.1 hm with hm | hm
        ·exact HJ.out hm
        ·simp at hm;exact e hm
       clear hy
       by_cases hxy:y=x
       ·have hf:=HNO.out (by rw [HIN.out];exact decide_eq_false (fun e=>e.2.2 (by rw [← hxy];exact HMEM.out)))
        subst hxy
        go_wp2
        refine wp_region_noPanic ?_
        refine wp_region_held_drew (S:=(fun V:World=>V.cell? ⟨b,off+j,none⟩=some (.int .i64 y)∧V.cell? ⟨b,off+k,none⟩=some (.int .i64 y))) (by kernel_rfl) ?_ (fun hHr1_0=>?_)
        ·(try dsimp only);exact ⟨hcj,hck⟩
        refine tk 0 ?_
        refine tk 1 ?_
        refine tk 2 ?_
        refine tk 3 ?_
        refine tk 4 ?_
        refine tk 5 ?_
        refine tk 6 ?_
        refine tk 7 ?_
        refine tk 8 ?_
        refine wpAnyH_done (by kernel_rfl) ?_ _
        refine NoPanic.normal ?_
        go_wp2
        go_ret
        exact ⟨by first | rfl | (rw [hf];rfl),by first | exact HB.out | exact HB.out.then_ HBI.out.drew⟩
       ·have hb:(y == x)=false:=by rw [beq_eq_false_iff_ne];exact hxy
        go_wp2
        refine wp_region_noPanic ?_
        refine wp_region_held_drew (S:=(fun V:World=>V.cell? ⟨b,off+j,none⟩=some (.int .i64 y)∧V.cell? ⟨b,off+k,none⟩=some (.int .i64 x))) (by kernel_rfl) ?_ (fun hHr2_0=>?_)
        ·(try dsimp only);exact ⟨hcj,hck⟩
        refine tk 0 ?_
        refine tk 1 ?_
        refine tk 2 ?_
        refine tk 3 ?_
        refine tk 4 ?_
        refine tk 5 ?_
        refine tk 6 ?_
        refine tk 7 ?_
        refine tk 8 ?_
        refine wpAnyH_done (by kernel_rfl) ?_ _
        refine NoPanic.normal ?_
        go_wp2
        go_roundw
        case rel=>exact ⟨j+1,by omega,by go_num,HJN.out (fun e=>hxy e.symm),HBI.out.drew⟩
        case measure=>simp [intOf];omega
      ·obtain rfl:j=k:=by omega
       have ht:=HNX.out (by rw [HIN.out];exact decide_eq_true ⟨by omega,by omega,HJ.out⟩)
       have HTT:=Lib.hid ht
       clear ht HJ
       go_wp2
       go_roundw
       case rel=>exact ⟨j+1,by omega,by omega,by go_num,HTT.out,HB.out.then_ HBI.out⟩
       case measure=>simp [intOf];omega
  ·by_cases h5:k=5
   ·subst h5
    have HRV:Hid (R=decide (l.length≤4)):=by
     show _=_
     rw [HR.out]
     rw [decide_eq_false (by omega)]
     unfold setB
     rw [decide_eq_false (by omega)]
     rfl
    have h4:(4:Int)<l.length:=by omega
    have h4b:decide ((l.length:Int)≤4)=false:=by simp;omega
    have h1:(1:Int)≤l.length:=by omega
    have h5I:(5:Int)≤l.length:=by omega
    have hf:R=false:=by rw [HRV.out];exact decide_eq_false (by omega)
    clear HT hlt
    go_wp2
    all_goals
     go_ret
     exact ⟨by first | rfl | (rw [hf];rfl),by first | exact HB.out | exact HB.out.then_ HBI.out.drew⟩
   ·obtain rfl:k=l.length:=by omega
    have h5b:(l.length:Int)<5:=by omega
    have h4:(l.length:Int)≤4:=by omega
    by_cases h1 : 1≤l.length
    ·have h1I:(1:Int)≤l.length:=by omega
     have ht:R=true:=by rw [HR.out];exact setB_true ⟨h1,by omega⟩ HT.out
     clear HT hlt
     go_wp2
     go_ret
     exact ⟨by first | rfl | (rw [ht];rfl),by first | exact HB.out | exact HB.out.then_ HBI.out.drew⟩
    ·have h1I:decide ((1:Int)≤l.length)=false:=by simp;omega
     have h1J:decide (1≤l.length)=false:=by rw [decide_eq_false_iff_not];exact h1
     have hf:R=false:=by rw [HR.out];unfold setB;rw [decide_eq_false (by omega)];rfl
     clear HT hlt
     go_wp2
     all_goals
      go_ret
      exact ⟨by first | rfl | (rw [hf];rfl),by first | exact HB.out | exact HB.out.then_ HBI.out.drew⟩
end
section
open Go.RowKit Go.Shelf Go.Lib
attribute [local go_sem] Oper.semAt_some
set_option maxRecDepth 100000 in
set_option maxHeartbeats 4000000 in
theorem tRight_any (vc vk vu:Value) (cols:List Col) (key:List Int) (uq:List (List Int)) (w:World) (hc:ColsAt w vc cols) (hk:IntsAt w vk key) (hu:ListsAt w vu uq) (hnm : ∀ c ∈ cols,c.name.size≤9223372036854775807) :
 Calls Tryz.prog 67 #[.agg #[vc,vk,vu]] w fun e w'=>e = .returned (.bool (rightS cols key uq))∧Bel w w':=by
 obtain ⟨R,hR⟩ : ∃ R,R=rightS cols key uq:=⟨_,rfl⟩
 rw [← hR]
 have HR:=Lib.hid hR
 clear hR
 have HC:=Lib.hid hc
 have HK:=Lib.hid hk
 have HU:=Lib.hid hu
 have HNM:=Lib.hid hnm
 obtain ⟨Ac,cc,rfl,hcc,hmc,hrc⟩:=hc
 obtain ⟨Ak,ck,rfl,hck,hmk,hrk⟩:=hk
 obtain ⟨Au,cu,rfl,hcu,hmu,hru⟩:=hu
 have HRC:=Lib.hid hrc
 have HRK:=Lib.hid hrk
 have HRU:=Lib.hid hru
 have hnI:(cols.length:Int)≤9223372036854775807:=by unfold maxLen at hmc;omega
 have huI:(uq.length:Int)≤9223372036854775807:=by unfold maxLen at hmu;omega
 have hkI:(key.length:Int)≤9223372036854775807:=by unfold maxLen at hmk;omega
 clear hrc hru hrk hmu hmc hmk hnm
 have HLS:=Lib.hid (fun V v l (h:IntsAt V v l)=>tset_any v l cols.length V h)
 by_cases h1 : 1≤cols.length∧cols.length≤8∧uq.length≤3
 ·have b1:decide ((cols.length:Int)<1)=false:=by simp;omega
  have b2:decide ((8:Int)<cols.length)=false:=by simp;omega
  have b3:decide ((3:Int)<uq.length)=false:=by simp;omega
  have HLS2:=Lib.hid (fun V (hb:Bel w V)=>HLS.out V _ _ (HK.out.bel hb))
  cases hsb:setB key cols.length with
  | false =>
    have hf:R=false:=by rw [HR.out];unfold rightS;rw [hsb];simp
    rw [hsb] at HLS2
    subst hf
    go_enter Tryz.func67,Tryz.ntmps67
    go_wp2_with (go_at_call 115;refine (HLS2.out _ ((Bel.refl w).alloc _)).mono ?_;rintro e w4 ⟨rfl,hb4⟩)
    go_ret
    exact ⟨rfl,((Bel.refl w).alloc _).then_ hb4⟩
  | true =>
    rw [hsb] at HLS2
    have HSB:=Lib.hid hsb
    clear hsb
    go_enter Tryz.func67,Tryz.ntmps67
    go_wp2_with (go_at_call 115;refine (HLS2.out _ ((Bel.refl w).alloc _)).mono ?_;rintro e w4 ⟨rfl,hb4⟩;have hl0:w4.cell? ⟨w.heap.size,0,none⟩=some (.slice Ac cols.length cc):=hb4.c (by go_simp);have hl1:w4.cell? ⟨w.heap.size,1,none⟩=some (.slice Ak key.length ck):=hb4.c (by go_simp);have hl2:w4.cell? ⟨w.heap.size,2,none⟩=some (.slice Au uq.length cu):=hb4.c (by go_simp);have hw4:Bel w w4:=((Bel.refl w).alloc _).then_ hb4)
    obtain ⟨b,off,hA,hci⟩:=HRC.out (by omega)
    subst hA
    have HCI:=Lib.hid hci
    have HW4:=Lib.hid hw4
    have HL0:=Lib.hid hl0
    have HL1:=Lib.hid hl1
    have HL2:=Lib.hid hl2
    clear hci hb4 hw4 hl0 hl1 hl2 HLS2
    go_loopw [4] (fun i wr=>∃ k:Nat,k≤cols.length∧i = .int .i64 k∧Hid (Bel w4 wr)∧Hid (∀ j,j<k→colB cols j=true)) (fun i _=>cols.length - (intOf i).toNat)
    case atStart=>exact ⟨0,Nat.zero_le _,rfl,Bel.refl w4,fun j hj=>by omega⟩
    case round =>
     obtain ⟨k,hk,rfl,HB,HT⟩:=hrel
     have hl0:=HB.out.c HL0.out
     by_cases hlt:k<cols.length
     ·obtain ⟨x,hx⟩ : ∃ x,cols[k]? = some x:=⟨_,List.getElem?_eq_getElem hlt⟩
      obtain ⟨q0,q1,q2,q3⟩:=HCI.out k x hx
      have hbw:Bel w wr:=HW4.out.then_ HB.out
      have p0:=hbw.c q0
      have p1:=hbw.c q1
      have p2:=hbw.c q2
      have p3:=hbw.c q3
      have hkI:(k:Int)<cols.length:=by omega
      have HCB:Hid (colB cols k=(rightB x && !(cols.take k).any (fun o=>decide (o.name=x.name)))):=by show _=_;unfold colB;rw [hx]
      have HNX:Hid (colB cols k=true → ∀ j,j<k+1→colB cols j=true):=fun e j hj=>by
       by_cases ej:j=k
       ·subst ej;exact e
       ·exact HT.out j (by omega)
      have HNO:Hid (colB cols k=false→R=false):=fun e=>by
       rw [HR.out];unfold rightS
       have:(List.range cols.length).all (colB cols)=false:=by rw [List.all_eq_false];exact ⟨k,List.mem_range.2 hlt,by simp [e]⟩
       rw [this];simp
      have HRI:=Lib.hid (tcolumn_any x (HNM.out x (List.mem_of_getElem? hx)) wr)
      have HBW:=Lib.hid hbw
      clear hx q1 q2 q3 hbw
      unfold Col.v at HRI
      cases hrb:rightB x with
      | false =>
        have hf:R=false:=HNO.out (by rw [HCB.out,hrb];rfl)
        rw [hrb] at HRI
        clear hrb
        go_wp2_with (go_at_call 116;refine HRI.out.mono ?_;rintro e w5 ⟨rfl,hb5⟩)
        go_ret
        exact ⟨by first | rfl | (rw [hf];rfl),HBW.out.then_ hb5⟩
      | true =>
        rw [hrb] at HRI HCB
        clear hrb
        go_wp2_with (go_at_call 116;refine HRI.out.mono ?_;rintro e w5 ⟨rfl,hb5⟩)
        have HB5:=Lib.hid (HBW.out.then_ hb5)
        have HB45:=Lib.hid (HB.out.then_ hb5)
        clear hb5 p0 p1 p2 p3 hl0
        go_loopw [5] (fun i wi=>∃ j:Nat,j≤k∧i = .int .i64 j∧Hid ((cols.take j).any (fun o=>decide (o.name=x.name))=false)∧Hid (Bel w5 wi)) (fun i _=>k - (intOf i).toNat)
        case atStart=>exact ⟨0,Nat.zero_le _,rfl,(by show _=_;simp),Bel.refl w5⟩
        case round =>
         rename_i wi
         obtain ⟨j,hj,rfl,HJ,HBI⟩:=hrel
         by_cases hjk:j<k
         ·obtain ⟨y,hy⟩ : ∃ y,cols[j]? = some y:=⟨_,List.getElem?_eq_getElem (by omega)⟩
          have hl0:=(HB45.out.then_ HBI.out).drew.c HL0.out
          have hn1:=(HB5.out.then_ HBI.out).drew.c (HCI.out j y hy).1
          have hn2:=(HB5.out.then_ HBI.out).drew.c q0
          have hjI:(j:Int)<k:=by omega
          have hjl:(j:Int)<cols.length:=by omega
          have HHIT:Hid (y.name=x.name→(cols.take k).any (fun o=>decide (o.name=x.name))=true):=fun e=>List.any_eq_true.2 ⟨y,List.mem_of_getElem? (i:=j) (by rw [List.getElem?_take,if_pos hjk];exact hy),decide_eq_true e⟩
          have HJN:Hid (¬ y.name=x.name→(cols.take (j+1)).any (fun o=>decide (o.name=x.name))=false):=fun e=>by
           rw [List.take_add_one,hy,List.any_append,HJ.out]
           simp [e]
          have hse:=str_beq y.name x.name
          clear hy
          by_cases hxy:y.name=x.name
          ·have hf:R=false:=HNO.out (by rw [HCB.out,HHIT.out hxy];rfl)
           rw [decide_eq_true hxy] at hse
           go_wp2
           refine wp_region_noPanic ?_
           refine wp_region_held_drew (S:=(fun V:World=>V.cell? ⟨w.heap.size,0,none⟩=some (.slice (some ⟨b,off,none⟩) cols.length cc)∧V.cell? ⟨b,off+j * 4,none⟩=some (.string y.name)∧V.cell? ⟨b,off+k * 4,none⟩=some (.string x.name))) (by kernel_rfl) ?_ (fun hHr1_0=>?_)
           ·(try dsimp only);exact ⟨hl0,hn1,hn2⟩
           refine tk 0 ?_
           refine tk 1 ?_
           refine tk 2 ?_
           refine tk 3 ?_
           refine tk 4 ?_
           refine tk 5 ?_
           refine tk 6 ?_
           refine tk 7 ?_
           refine tk 8 ?_
           refine tk 9 ?_
           refine tk 10 ?_
           refine tk 11 ?_
           refine tk 12 ?_
           refine wpAnyH_done (by kernel_rfl) ?_ _
           refine NoPanic.normal ?_
           go_wp2
           go_ret
           exact ⟨by first | rfl | (rw [hf];rfl),(HB5.out.then_ HBI.out).drew⟩
          ·rw [decide_eq_false hxy] at hse
           go_wp2
           refine wp_region_noPanic ?_
           refine wp_region_held_drew (S:=(fun V:World=>V.cell? ⟨w.heap.size,0,none⟩=some (.slice (some ⟨b,off,none⟩) cols.length cc)∧V.cell? ⟨b,off+j * 4,none⟩=some (.string y.name)∧V.cell? ⟨b,off+k * 4,none⟩=some (.string x.name))) (by kernel_rfl) ?_ (fun hHr2_0=>?_)
           ·(try dsimp only);exact ⟨hl0,hn1,hn2⟩
           refine tk 0 ?_
           refine tk 1 ?_
           refine tk 2 ?_
           refine tk 3 ?_
           refine tk 4 ?_
           refine tk 5 ?_
           refine tk 6 ?_
           refine tk 7 ?_
           refine tk 8 ?_
           refine tk 9 ?_
           refine tk 10 ?_
           refine tk 11 ?_
           refine tk 12 ?_
           refine wpAnyH_done (by kernel_rfl) ?_ _
           refine NoPanic.normal ?_
           go_wp2
           go_roundw
           case rel=>exact ⟨j+1,by omega,by go_num,HJN.out hxy,HBI.out.drew⟩
           case measure=>simp [intOf];omega
         ·obtain rfl:j=k:=by omega
          have ht:=HNX.out (by rw [HCB.out,HJ.out];rfl)
          have HTT:=Lib.hid ht
          clear ht HJ
          go_wp2
          go_roundw
          case rel=>exact ⟨j+1,by omega,by go_num,HB45.out.then_ HBI.out,HTT.out⟩
          case measure=>simp [intOf];omega
     ·obtain rfl:k=cols.length:=by omega
      have hl1:=HB.out.c HL1.out
      have hl2:=HB.out.c HL2.out
      have HRN:Hid (R=(!key.any (nullAt cols) && !uq.any (fun l=>!setB l cols.length))):=by
       show _=_
       rw [HR.out];unfold rightS
       have:(List.range cols.length).all (colB cols)=true:=by rw [List.all_eq_true];exact fun i hi=>HT.out i (List.mem_range.1 hi)
       rw [decide_eq_true h1,HSB.out,this];rfl
      clear HT hlt hk
      go_wp2
      have HBW:=Lib.hid (HW4.out.then_ HB.out)
      have HL0r:=Lib.hid hl0
      have HL1r:=Lib.hid hl1
      have HL2r:=Lib.hid hl2
      clear hl0 hl1 hl2
      go_loopw [6] (fun i wi=>∃ j:Nat,j≤key.length∧i = .int .i64 j∧Hid ((key.take j).any (nullAt cols)=false)∧Hid (Bel wr wi)) (fun i _=>key.length - (intOf i).toNat)
      case atStart=>exact ⟨0,Nat.zero_le _,rfl,(by show _=_;simp),Bel.refl wr⟩
      case round =>
       rename_i wi
       obtain ⟨j,hj,rfl,HJ,HBI⟩:=hrel
       have hl1:=HBI.out.c HL1r.out
       by_cases hjk:j<key.length
       ·obtain ⟨y,hy⟩ : ∃ y,key[j]? = some y:=⟨_,List.getElem?_eq_getElem hjk⟩
        obtain ⟨bk,ok,rfl,hki⟩:=HRK.out (by omega)
        obtain ⟨g0,g1⟩:=setB_in HSB.out y (List.mem_of_getElem? hy)
        obtain ⟨n,rfl⟩:=Int.eq_ofNat_of_zero_le g0
        have hn:n<cols.length:=by omega
        obtain ⟨x,hx⟩ : ∃ x,cols[n]? = some x:=⟨_,List.getElem?_eq_getElem hn⟩
        have hnul:nullAt cols (n:Int)=x.null:=by unfold nullAt;simp [hx]
        have k1:=(HBI.out.drew).c HL0r.out
        have k2:=(HBI.out.drew).c HL1r.out
        have k3:=(HBW.out.then_ HBI.out).drew.c (hki j (n:Int) hy)
        have k4:=(HBW.out.then_ HBI.out).drew.c (HCI.out n x hx).2.2.2
        have hjI:(j:Int)<key.length:=by omega
        have hnJ:(n:Int)<cols.length:=by omega
        have HHIT:Hid (x.null=true→R=false):=fun e=>by
         rw [HRN.out,show key.any (nullAt cols)=true from List.any_eq_true.2 ⟨(n:Int),List.mem_of_getElem? hy,by rw [hnul];exact e⟩];rfl
        have HJN:Hid (x.null=false→(key.take (j+1)).any (nullAt cols)=false):=fun e=>by
         rw [List.take_add_one,hy,List.any_append,HJ.out]
         simp [hnul,e]
        clear hy hx hnul hki g0 g1
        generalize x.null=nb at *
        cases nb
        ·have ht:=Lib.hid (HJN.out rfl)
         go_wp2
         refine wp_region_noPanic ?_
         refine wp_region_held_drew (S:=(fun V:World=>V.cell? ⟨w.heap.size,0,none⟩=some (.slice (some ⟨b,off,none⟩) cols.length cc)∧V.cell? ⟨w.heap.size,1,none⟩=some (.slice (some ⟨bk,ok,none⟩) key.length ck)∧V.cell? ⟨bk,ok+j,none⟩=some (.int .i64 n)∧V.cell? ⟨b,off+n * 4+3,none⟩=some (.bool false))) (by kernel_rfl) ?_ (fun hHr3_0=>?_)
         ·(try dsimp only);exact ⟨k1,k2,k3,k4⟩
         refine tk 0 ?_
         refine tk 1 ?_
         refine tk 2 ?_
         refine tk 3 ?_
         refine tk 4 ?_
         refine tk 5 ?_
         refine tk 6 ?_
         refine tk 7 ?_
         refine tk 8 ?_
         refine tk 9 ?_
         refine wpAnyH_done (by kernel_rfl) ?_ _
         refine NoPanic.normal ?_
         go_wp2
         go_roundw
         case rel=>exact ⟨j+1,by omega,by go_num,ht.out,HBI.out.drew⟩
         case measure=>simp [intOf];omega
        ·have hf:R=false:=HHIT.out rfl
         go_wp2
         refine wp_region_noPanic ?_
         refine wp_region_held_drew (S:=(fun V:World=>V.cell? ⟨w.heap.size,0,none⟩=some (.slice (some ⟨b,off,none⟩) cols.length cc)∧V.cell? ⟨w.heap.size,1,none⟩=some (.slice (some ⟨bk,ok,none⟩) key.length ck)∧V.cell? ⟨bk,ok+j,none⟩=some (.int .i64 n)∧V.cell? ⟨b,off+n * 4+3,none⟩=some (.bool true))) (by kernel_rfl) ?_ (fun hHr4_0=>?_)
         ·(try dsimp only);exact ⟨k1,k2,k3,k4⟩
         refine tk 0 ?_
         refine tk 1 ?_
         refine tk 2 ?_
         refine tk 3 ?_
         refine tk 4 ?_
         refine tk 5 ?_
         refine tk 6 ?_
         refine tk 7 ?_
         refine tk 8 ?_
         refine tk 9 ?_
         refine wpAnyH_done (by kernel_rfl) ?_ _
         refine NoPanic.normal ?_
         go_wp2
         go_ret
         exact ⟨by first | rfl | (rw [hf];rfl),(HBW.out.then_ HBI.out).drew⟩
       ·obtain rfl:j=key.length:=by omega
        have HRM:Hid (R = !uq.any (fun l=>!setB l cols.length)):=by
         show _=_
         have:=HJ.out
         rw [List.take_length] at this
         rw [HRN.out,this];rfl
        clear HJ hjk hj HRN
        go_wp2
        have HBX:=Lib.hid (HBW.out.then_ HBI.out)
        have HL2s:=Lib.hid (HBI.out.c HL2r.out)
        clear hl1
        go_loopw [7] (fun i wu=>∃ j:Nat,j≤uq.length∧i = .int .i64 j∧Hid ((uq.take j).any (fun l=>!setB l cols.length)=false)∧Hid (Bel wr wu)) (fun i _=>uq.length - (intOf i).toNat)
        case atStart=>exact ⟨0,Nat.zero_le _,rfl,(by show _=_;simp),Bel.refl wr⟩
        case round =>
         obtain ⟨j,hj,rfl,HJ,HBU⟩:=hrel
         have hl2:=HBU.out.c HL2s.out
         by_cases hjk:j<uq.length
         ·obtain ⟨y,hy⟩ : ∃ y,uq[j]? = some y:=⟨_,List.getElem?_eq_getElem hjk⟩
          obtain ⟨bu,ou,rfl,hui⟩:=HRU.out (by omega)
          obtain ⟨u,hu0,hu1⟩:=hui j y hy
          have hcu0:=(HBX.out.then_ HBU.out).c hu0
          have HSE:=Lib.hid (HLS.out wr u y (hu1.bel (HBX.out.then_ HBU.out)))
          have hjI:(j:Int)<uq.length:=by omega
          have HHIT:Hid (setB y cols.length=false→R=false):=fun e=>by
           rw [HRM.out,show uq.any (fun l=>!setB l cols.length)=true from List.any_eq_true.2 ⟨y,List.mem_of_getElem? hy,by rw [e];rfl⟩];rfl
          have HJN:Hid (setB y cols.length=true→(uq.take (j+1)).any (fun l=>!setB l cols.length)=false):=fun e=>by
           rw [List.take_add_one,hy,List.any_append,HJ.out]
           simp [e]
          clear hy hui hu0 hu1
          generalize setB y cols.length=sb at *
          cases sb
          ·have hf:R=false:=HHIT.out rfl
           go_wp2_with (go_at_call 115;refine HSE.out.mono ?_;rintro e w8 ⟨rfl,hb8⟩)
           go_ret
           exact ⟨by first | rfl | (rw [hf];rfl),(HBX.out.then_ HBU.out).then_ hb8⟩
          ·have ht:=Lib.hid (HJN.out rfl)
           go_wp2_with (go_at_call 115;refine HSE.out.mono ?_;rintro e w8 ⟨rfl,hb8⟩)
           go_roundw
           case rel=>exact ⟨j+1,by omega,by go_num,ht.out,HBU.out.then_ hb8⟩
           case measure=>simp [intOf];omega
         ·obtain rfl:j=uq.length:=by omega
          have ht:R=true:=by
           have:=HJ.out
           rw [List.take_length] at this
           rw [HRM.out,this];rfl
          clear HJ hjk hj
          go_wp2
          go_ret
          exact ⟨by first | rfl | (rw [ht];rfl),HBX.out.then_ HBU.out⟩
 ·have hf:R=false:=by rw [HR.out];unfold rightS;rw [decide_eq_false h1];rfl
  subst hf
  by_cases n1:(cols.length:Int)<1
  ·have b4:decide ((1:Int)≤cols.length)=false:=by simp;omega
   go_enter Tryz.func67,Tryz.ntmps67
   go_wp2_with fail
   all_goals
    go_ret
    exact ⟨rfl,by (repeat (first | exact Below.refl _ _ | assumption | exact Bel.refl _ | refine Bel.alloc ?_ _ | refine Bel.drew ?_ | refine Bel.drewN ?_ _ | refine Bel.then_ ?_ (by assumption) | refine Bel.setCell ?_ (by first | (simp;done) | (simp;omega)) _))⟩
  ·have n1b:decide ((cols.length:Int)<1)=false:=by simp;omega
   by_cases n2:(8:Int)<cols.length
   ·go_enter Tryz.func67,Tryz.ntmps67
    go_wp2_with fail
    all_goals
     go_ret
     exact ⟨rfl,by (repeat (first | exact Below.refl _ _ | assumption | exact Bel.refl _ | refine Bel.alloc ?_ _ | refine Bel.drew ?_ | refine Bel.drewN ?_ _ | refine Bel.then_ ?_ (by assumption) | refine Bel.setCell ?_ (by first | (simp;done) | (simp;omega)) _))⟩
   ·have n2b:decide ((8:Int)<cols.length)=false:=by simp;omega
    have n3:(3:Int)<uq.length:=by omega
    go_enter Tryz.func67,Tryz.ntmps67
    go_wp2_with fail
    all_goals
     go_ret
     exact ⟨rfl,by (repeat (first | exact Below.refl _ _ | assumption | exact Bel.refl _ | refine Bel.alloc ?_ _ | refine Bel.drew ?_ | refine Bel.drewN ?_ _ | refine Bel.then_ ?_ (by assumption) | refine Bel.setCell ?_ (by first | (simp;done) | (simp;omega)) _))⟩
end
section
open Go.RowKit
theorem needN_pos {n:Nat} (h : 0<n):needN n=needN (n / 256)+1:=by
 unfold needN
 by_cases h8 : 256≤n
 ·have:=bl_shift n 8 h8
  rw [show (2:Nat) ^ 8=256 from rfl] at this
  rw [this]
  omega
 ·have e:n / 256=0:=by omega
  have h1:bl n≤8:=(bl_le_iff n 8).2 (by omega)
  have h2 : 0<bl n:=(bl_lt_iff n 0).2 (by omega)
  rw [e,bl_zero]
  omega
theorem beN_snoc (n:Nat) : ∀ k,beN n (k+1)=beN (n / 256) k ++ [UInt8.ofNat (n % 256)]
 | 0=>by simp [beN]
 | k+1=>by
   rw [beN,beN_snoc n k,beN,List.cons_append]
   congr 3
   rw [Nat.div_div_eq_div_mul,Nat.pow_succ,Nat.mul_comm]
set_option maxRecDepth 100000 in
set_option maxHeartbeats 1000000 in
theorem high_any : ∀ (k n:Nat),n<256 ^ k→n<2 ^ 64 → ∀ w:World,Calls Tryz.prog 68 #[.int .u64 n] w fun e w'=>∃ A c,e = .returned (.slice A (needN n) c)∧w'.ownsRow w.heap.size 5 1 (.slice A (needN n) c) (needN n) ((beN n (needN n)).map bv)∧Bel w w':=by
 intro k
 induction k with
 | zero =>
   intro n hn h64 w
   obtain rfl:n=0:=by simpa using hn
   go_enter Tryz.func68,Tryz.ntmps68
   go_wp2
   go_ret
   exact ⟨none,0,rfl,World.ownsRow_nil _ _ _ _,Bel.refl w⟩
 | succ k ih =>
   intro n hn h64 w
   by_cases h0:n=0
   ·subst h0
    go_enter Tryz.func68,Tryz.ntmps68
    go_wp2
    go_ret
    exact ⟨none,0,rfl,World.ownsRow_nil _ _ _ _,Bel.refl w⟩
   ·have hne:((n:Int) == 0)=false:=beq_eq_false_iff_ne.2 (by omega)
    have IH:=Lib.hid (ih (n / 256) (by rw [Nat.pow_succ] at hn;omega) (by omega))
    have hI:(n:Int)≤18446744073709551615:=by omega
    clear hn h64
    clear ih
    go_enter Tryz.func68,Tryz.ntmps68
    go_wp2_with fail
    refine (IH.out w).mono ?_
    rintro e w1 ⟨A1,c1,rfl,hown,hb⟩
    have hnd:=needN_pos (n:=n) (by omega)
    have hbe:(beN n (needN n)).map bv=(beN (n / 256) (needN (n / 256))).map bv ++ [.int .u8 ((n:Int) % 256)]:=by
     rw [hnd,beN_snoc,List.map_append]
     simp [bv]
    have hk8:needN (n / 256)≤8:=(needN_le_iff _ _).2 (by omega)
    have HND:=Lib.hid hnd
    have HBE:=Lib.hid hbe
    have hbo : ∀ u ∈ [(.int .u8 ((n:Int) % 256):Value)],u.oneCell'=true:=by simp [Value.oneCell']
    have HO:=Lib.hid hown
    have HB:=Lib.hid hb
    obtain ⟨i0,hi0,hz0,hz1,hz2⟩:=info_parts infoU8
    clear hown hb IH hnd hbe
    generalize (beN (n / 256) (needN (n / 256))).map bv=ys at *
    generalize needN (n / 256)=K at *
    go_wp2_with (at_builtin;refine wpList_append_any _ rfl (.tmp 7) (.tmp 11) _ rfl w.heap.size 5 i0 _ 1 1 Tryz.underlying34 hi0 hz0 hz1 hz2 rfl (by omega) (.slice A1 K c1) K ys rfl ?c1 (w1.heap.size+1) (some ⟨w1.heap.size,0,none⟩) 1 1 [.int .u8 ((n:Int) % 256)] rfl ?c2 hbo ?c3 ?c4 ?c5 ?_)
    case c1=>exact ownsRow_bel HO.out ((Bel.refl w1).alloc _)
    case c2=>exact ⟨by simp,fun _=>⟨_,rfl,by simp,fun j u hu=>by
     have hj:j=0:=by have:=(List.getElem?_eq_some_iff.1 hu).1;simp at this;omega
     subst hj
     simp at hu
     subst hu
     simp [Addr.add,World.cell?_alloc_new]⟩⟩
    case c3=>unfold maxLen;omega
    case c4=>simp;omega
    case c5=>have:=HB.out.size;simp;omega
    intro v1 w2 hown2 hg2 hat2
    obtain ⟨g,cap',rfl⟩:=ownsRow_succ hown2
    have HO3:=Lib.hid hown2
    have HB3:Hid (Bel w w2):=Below.grown (HB.out.alloc _) hg2 (by have:=HB.out.size;simp;omega) (fun j e=>(HO.out.lt j e).1)
    clear hown2 hg2 hat2
    go_wp2
    go_ret
    rw [HBE.out,HND.out]
    exact ⟨_,_,rfl,HO3.out,HB3.out⟩
end
end Go.Proofs.YtnajjhgbombboaaGreatDoor
