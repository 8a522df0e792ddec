/-
  Texts behind the statement: part 36.
-/
import Derived.Test.YtnajjhgbombboaaGreatDoorP28
import Derived.Test.YtnajjhgbombboaaGreatDoorP35
set_option linter.unusedVariables false
set_option linter.unusedSimpArgs false
namespace Go.Proofs.YtnajjhgbombboaaGreatDoor
section
open Go.RowKit Go.Shelf Go.Lib
attribute [local go_sem] Oper.semAt_some
def nullT:ByteArray:=⟨#[]⟩
def docF1 (e:Ev):Bool:=decide (e.k<1) || (decide (6<e.k) || ((decide (e.k=6) != decide (e.t=nullT)) || ((!decide (e.k=6) && (!namedB e.t || decide (0<e.ns.length))) || (!decide (e.k=4) && !emptyB e.c e.ky e.u))))
def docF2 (e:Ev):Bool:=(decide (e.k=2 ∨ e.k=3) && !rowB e.o) || ((!decide (e.k=2 ∨ e.k=3) && decide (0<e.o.length)) || ((decide (e.k=1 ∨ e.k=2) && !rowB e.n) || (!decide (e.k=1 ∨ e.k=2) && decide (0<e.n.length))))
def docT (e:Ev):Bool:=if e.k=2 then decide (e.o.length=e.n.length) else if e.k=4 then rightS e.c e.ky e.u else if e.k=6 then namesB e.ns else true
theorem len_nil {α : Type} (l:List α):(0<l.length) ↔ ¬ l=[]:=by
 cases l <;> simp
theorem empty_nil (c:List Col) (ky:List Int) (u:List (List Int)):emptyB c ky u=true ↔ c=[]∧ky=[]∧u=[]:=by
 unfold emptyB
 rw [decide_eq_true_eq]
 constructor
 ·intro h
  exact ⟨List.eq_nil_of_length_eq_zero (by omega),List.eq_nil_of_length_eq_zero (by omega),List.eq_nil_of_length_eq_zero (by omega)⟩
 ·rintro ⟨rfl,rfl,rfl⟩;rfl
theorem named_null:namedB nullT=false:=by decide +kernel
theorem right_doc (e:Ev):rightE e=(!docF1 e && (!docF2 e && docT e)):=by
 obtain ⟨k,t,c,ky,u,o,n,ns⟩:=e
 by_cases hk : 1≤k∧k≤6
 case neg =>
  unfold rightE docF1
  dsimp only
  rw [decide_eq_false hk]
  by_cases h1:k<1
  ·rw [decide_eq_true h1];rfl
  ·rw [decide_eq_false h1,decide_eq_true (show 6<k by omega)];rfl
 case pos =>
  have hc:k=1 ∨ k=2 ∨ k=3 ∨ k=4 ∨ k=5 ∨ k=6:=by omega
  have hn:=named_null
  have he:=empty_nil c ky u
  rw [Bool.eq_iff_iff]
  rcases hc with rfl | rfl | rfl | rfl | rfl | rfl
  all_goals (unfold rightE docF1 docF2 docT bareE partsOf lensB mayP)
  all_goals simp [he,len_nil]
  all_goals (have hnt:namedB t=true → ¬ t=nullT:=fun h e=>by rw [e,hn] at h;cases h)
  ·exact ⟨fun ⟨⟨a,b,c,d,e⟩,f,g⟩=>⟨⟨hnt f,⟨f,e⟩,a,b,c⟩,d,g⟩,fun ⟨⟨_,⟨f,e⟩,a,b,c⟩,d,g⟩=>⟨⟨a,b,c,d,e⟩,f,g⟩⟩
  ·exact ⟨fun ⟨⟨a,b,c,d⟩,⟨f,g,h⟩,i⟩=>⟨⟨hnt f,⟨f,d⟩,a,b,c⟩,⟨g,h⟩,i⟩,fun ⟨⟨_,⟨f,d⟩,a,b,c⟩,⟨g,h⟩,i⟩=>⟨⟨a,b,c,d⟩,⟨f,g,h⟩,i⟩⟩
  ·exact ⟨fun ⟨⟨a,b,c,d,e⟩,f,g⟩=>⟨⟨hnt f,⟨f,e⟩,a,b,c⟩,g,d⟩,fun ⟨⟨_,⟨f,e⟩,a,b,c⟩,g,d⟩=>⟨⟨a,b,c,d,e⟩,f,g⟩⟩
  ·exact ⟨fun ⟨⟨a,b,c⟩,f,g⟩=>⟨⟨hnt f,f,c⟩,⟨a,b⟩,g⟩,fun ⟨⟨_,f,c⟩,⟨a,b⟩,g⟩=>⟨⟨a,b,c⟩,f,g⟩⟩
  ·exact ⟨fun ⟨⟨a,b,c,d,e,g⟩,f⟩=>⟨⟨hnt f,⟨f,g⟩,a,b,c⟩,d,e⟩,fun ⟨⟨_,⟨f,g⟩,a,b,c⟩,d,e⟩=>⟨⟨a,b,c,d,e,g⟩,f⟩⟩
  ·exact ⟨fun ⟨⟨a,b,c,d,e,f⟩,g⟩=>⟨⟨a,b,c,d⟩,⟨e,f⟩,g⟩,fun ⟨⟨a,b,c,d⟩,⟨e,f⟩,g⟩=>⟨⟨a,b,c,d,e,f⟩,g⟩⟩
set_option maxRecDepth 100000 in
set_option maxHeartbeats 16000000 in
theorem r8Right_any (e:Ev) (vc vk vu vo vn vs:Value) (w:World) (hsz:e.Sz) (hlen:e.c.length≤1000000∧e.ky.length≤1000000∧e.u.length≤1000000) (h:EvAt w vc vk vu vo vn vs e) :
  Calls Tryz.prog 28 #[evV e.k e.t vc vk vu vo vn vs] w fun en w'=>en = .returned (.bool (rightE e))∧Bel w w':=by
 have HNM:=Lib.hid (fun V=>tName_any e.t (by have:=hsz.t;omega) V)
 have HEM:=Lib.hid (fun V (hV:Bel w V)=>r8empty_any vc vk vu e.c e.ky e.u V (h.c.bel hV) (h.ky.bel hV) (h.u.bel hV) hlen)
 have HRO:=Lib.hid (fun V (hV:Bel w V)=>r8row_any vo e.o V (h.o.bel hV))
 have HRN:=Lib.hid (fun V (hV:Bel w V)=>r8row_any vn e.n V (h.n.bel hV))
 have HRS:=Lib.hid (fun V (hV:Bel w V)=>tRight_any vc vk vu e.c e.ky e.u V (h.c.bel hV) (h.ky.bel hV) (h.u.bel hV) (fun c hc=>by have:=hsz.c c hc;omega))
 have HNP:=Lib.hid (fun (p:ByteArray×ByteArray) (hp:p ∈ e.ns) V=>And.intro (tName_any p.1 (by have:=(hsz.ns p hp).1;omega) V) (tName_any p.2 (by have:=(hsz.ns p hp).2;omega) V))
 have HNS:=Lib.hid h.ns
 have hrd:=right_doc e
 obtain ⟨R,hR⟩ : ∃ R,R=rightE e:=⟨_,rfl⟩
 rw [← hR] at hrd ⊢
 obtain ⟨F1,hF1⟩ : ∃ F,F=docF1 e:=⟨_,rfl⟩
 obtain ⟨F2,hF2⟩ : ∃ F,F=docF2 e:=⟨_,rfl⟩
 rw [← hF1,← hF2] at hrd
 clear hR
 obtain ⟨Ac,cc,Ak,ck,Au,cu,Ao,co,An,cn,As,cs,rfl,rfl,rfl,rfl,rfl,rfl⟩:=h.opened
 clear h hsz hlen
 obtain ⟨k,t,c,ky,u,o,n,ns⟩:=e
 unfold evV
 unfold docF1 at hF1
 unfold docF2 at hF2
 unfold docT at hrd
 dsimp only at *
 generalize namedB t=NM at HNM hF1
 generalize emptyB c ky u=EM at HEM hF1
 generalize rowB o=RO at HRO hF2
 generalize rowB n=RN at HRN hF2
 have HF1:=Lib.hid hF1
 have HF2:=Lib.hid hF2
 have HR:=Lib.hid hrd
 clear hF1 hF2 hrd
 obtain ⟨WE,hWE⟩ : ∃ W,W=w.alloc (.cells #[.int .i64 k,.string t,.slice Ac c.length cc,.slice Ak ky.length ck,.slice Au u.length cu,.slice Ao o.length co,.slice An n.length cn,.slice As ns.length cs] 31):=⟨_,rfl⟩
 have HBX:Hid (Blk WE w.heap.size 31 #[.int .i64 k,.string t,.slice Ac c.length cc,.slice Ak ky.length ck,.slice Au u.length cu,.slice Ao o.length co,.slice An n.length cn,.slice As ns.length cs]):=Lib.hid (by rw [hWE];exact Blk.new w _ _)
 have HBE:Hid (Bel w WE):=Lib.hid (by rw [hWE];exact (Bel.refl w).alloc _)
 have HCX:Hid (∀ V,Bel WE V→(V.cell? ⟨w.heap.size,0,none⟩=some (.int .i64 k)∧V.cell? ⟨w.heap.size,1,none⟩=some (.string t)∧V.cell? ⟨w.heap.size,2,none⟩=some (.slice Ac c.length cc)∧V.cell? ⟨w.heap.size,3,none⟩=some (.slice Ak ky.length ck)∧V.cell? ⟨w.heap.size,4,none⟩=some (.slice Au u.length cu)∧V.cell? ⟨w.heap.size,5,none⟩=some (.slice Ao o.length co)∧V.cell? ⟨w.heap.size,6,none⟩=some (.slice An n.length cn)∧V.cell? ⟨w.heap.size,7,none⟩=some (.slice As ns.length cs))) :=
  Lib.hid (fun V hV=>by have h:=HBX.out.below hV HBX.out.lt;exact ⟨h.cell 0,h.cell 1,h.cell 2,h.cell 3,h.cell 4,h.cell 5,h.cell 6,h.cell 7⟩)
 go_enter Tryz.func28,Tryz.ntmps28
 go_upto_region 2 with fail
 rw [← hWE]
 clear hWE
 obtain ⟨x0,x1,x2,x3,x4,x5,x6,x7⟩:=HCX.out WE (Bel.refl WE)
 go_cut [48] (fun c wx=>c = .bool F1∧Bel WE wx)
 case first =>
  by_cases h1:k<1
  ·obtain rfl:F1=true:=by rw [HF1.out];simp [h1]
   try clear ht
   try clear hnz
   go_wp2
   go_meet
   case rel=>exact ⟨rfl,Bel.refl _⟩
  ·by_cases h6 : 6<k
   ·obtain rfl:F1=true:=by rw [HF1.out];simp [h1,h6]
    try clear ht
    try clear hnz
    go_wp2
    go_meet
    case rel=>exact ⟨rfl,Bel.refl _⟩
   ·by_cases hk6:k=6
    ·subst hk6
     by_cases ht:t=nullT
     ·have ht1:(t.toList == ([]:List UInt8))=true:=by rw [ht,show nullT.toList=[] by rw [ByteArray.toList_eq];rfl];rfl
      cases EM with
      | false =>
        obtain rfl:F1=true:=by rw [HF1.out];simp [ht]
        try clear ht
        try clear hnz
        go_wp2_with (go_at_call 65;refine (HEM.out _ HBE.out).mono ?_;rintro e1 w1 ⟨rfl,hb1⟩)
        go_meet
        case rel=>exact ⟨rfl,hb1⟩
      | true =>
        obtain rfl:F1=false:=by rw [HF1.out];simp [ht]
        try clear ht
        try clear hnz
        go_wp2_with (go_at_call 65;refine (HEM.out _ HBE.out).mono ?_;rintro e1 w1 ⟨rfl,hb1⟩)
        go_meet
        case rel=>exact ⟨rfl,hb1⟩
     ·have ht1:(t.toList == ([]:List UInt8))=false:=by rw [beq_eq_false_iff_ne];intro h;exact ht (bytes_eq_iff.1 (h.trans (by rw [ByteArray.toList_eq];rfl)))
      obtain rfl:F1=true:=by rw [HF1.out];simp [ht]
      try clear ht
      try clear hnz
      go_wp2
      go_meet
      case rel=>exact ⟨rfl,Bel.refl _⟩
    ·have hk6b:(k == 6)=false:=by rw [beq_eq_false_iff_ne];exact hk6
     have hk6c:(k != 6)=true:=by rw [bne_iff_ne];exact hk6
     by_cases ht:t=nullT
     ·have ht1:(t.toList == ([]:List UInt8))=true:=by rw [ht,show nullT.toList=[] by rw [ByteArray.toList_eq];rfl];rfl
      obtain rfl:F1=true:=by rw [HF1.out];simp [ht,hk6]
      try clear ht
      try clear hnz
      go_wp2
      go_meet
      case rel=>exact ⟨rfl,Bel.refl _⟩
     ·have ht1:(t.toList == ([]:List UInt8))=false:=by rw [beq_eq_false_iff_ne];intro h;exact ht (bytes_eq_iff.1 (h.trans (by rw [ByteArray.toList_eq];rfl)))
      cases NM with
      | false =>
        obtain rfl:F1=true:=by rw [HF1.out];simp [hk6]
        try clear ht
        try clear hnz
        go_wp2_with (go_at_call 64;refine (HNM.out _).mono ?_;rintro e1 w1 ⟨rfl,rfl⟩)
        go_meet
        case rel=>exact ⟨rfl,Bel.refl _⟩
      | true =>
        by_cases hn0 : 0<ns.length
        ·have hnI:(0:Int)<ns.length:=by omega
         obtain rfl:F1=true:=by rw [HF1.out];simp [hk6,hn0]
         try clear ht
         try clear hnz
         go_wp2_with (go_at_call 64;refine (HNM.out _).mono ?_;rintro e1 w1 ⟨rfl,rfl⟩)
         go_meet
         case rel=>exact ⟨rfl,Bel.refl _⟩
        ·have hnI : ¬ (0:Int)<ns.length:=by omega
         have hnz:ns.length=0:=by omega
         by_cases hk4:k=4
         ·subst hk4
          obtain rfl:F1=false:=by rw [HF1.out];simp [ht,hnz]
          try clear ht
          try clear hnz
          go_wp2_with (go_at_call 64;refine (HNM.out _).mono ?_;rintro e1 w1 ⟨rfl,rfl⟩)
          go_meet
          case rel=>exact ⟨rfl,Bel.refl _⟩
         ·have hk4c:(k != 4)=true:=by rw [bne_iff_ne];exact hk4
          cases EM with
          | false =>
            obtain rfl:F1=true:=by rw [HF1.out];simp [hk4,ht,hk6,h1,h6,hnz]
            try clear ht
            try clear hnz
            go_wp2_with (first | (go_at_call 65;refine (HEM.out _ HBE.out).mono ?_;rintro e1 w1 ⟨rfl,hb1⟩) | (go_at_call 64;refine (HNM.out _).mono ?_;rintro e1 w1 ⟨rfl,rfl⟩))
            go_meet
            case rel=>exact ⟨rfl,hb1⟩
          | true =>
            obtain rfl:F1=false:=by rw [HF1.out];simp [hk4,ht,hk6,h1,h6,hnz]
            try clear ht
            try clear hnz
            go_wp2_with (first | (go_at_call 65;refine (HEM.out _ HBE.out).mono ?_;rintro e1 w1 ⟨rfl,hb1⟩) | (go_at_call 64;refine (HNM.out _).mono ?_;rintro e1 w1 ⟨rfl,rfl⟩))
            go_meet
            case rel=>exact ⟨rfl,hb1⟩
 case rest =>
  obtain ⟨rfl,hbc⟩:=hcut
  have HBC:=Lib.hid (HBE.out.then_ hbc)
  have HBB:=Lib.hid hbc
  clear x0 x1 x2 x3 x4 x5 x6 x7
  cases F1 with
  | true =>
    obtain rfl:R=false:=by rw [HR.out];rfl
    clear hbc
    go_wp2
    go_ret
    exact ⟨rfl,HBC.out⟩
  | false =>
    obtain ⟨x0,x1,x2,x3,x4,x5,x6,x7⟩:=HCX.out wc hbc
    clear hbc
    have hk : 1≤k∧k≤6:=by
     have h:=HF1.out
     by_cases h1:k<1
     ·rw [decide_eq_true h1] at h;cases h
     ·by_cases h2 : 6<k
      ·rw [decide_eq_true h2,Bool.true_or,Bool.or_true] at h;cases h
      ·omega
    go_upto_region 4 with fail
    obtain ⟨O,hO⟩ : ∃ O,O=decide (k=2 ∨ k=3):=⟨_,rfl⟩
    obtain ⟨N,hN⟩ : ∃ N,N=decide (k=1 ∨ k=2):=⟨_,rfl⟩
    rw [← hO,← hN] at HF2
    have HO:=Lib.hid hO
    have HN:=Lib.hid hN
    clear hO hN
    go_cut [4,5] (fun a b wx=>a = .bool O∧b = .bool N∧wx=wc)
    case first =>
     by_cases h1:k=1
     ·subst h1
      obtain rfl:O=false:=by rw [HO.out];rfl
      obtain rfl:N=true:=by rw [HN.out];rfl
      go_wp2
      go_meet
      case rel=>exact ⟨rfl,rfl,rfl⟩
     ·have h1b:(k == 1)=false:=by rw [beq_eq_false_iff_ne];exact h1
      by_cases h2:k=2
      ·subst h2
       obtain rfl:O=true:=by rw [HO.out];rfl
       obtain rfl:N=true:=by rw [HN.out];rfl
       go_wp2
       go_meet
       case rel=>exact ⟨rfl,rfl,rfl⟩
      ·have h2b:(k == 2)=false:=by rw [beq_eq_false_iff_ne];exact h2
       by_cases h3:k=3
       ·subst h3
        obtain rfl:O=true:=by rw [HO.out];rfl
        obtain rfl:N=false:=by rw [HN.out];rfl
        go_wp2
        go_meet
        case rel=>exact ⟨rfl,rfl,rfl⟩
       ·have h3b:(k == 3)=false:=by rw [beq_eq_false_iff_ne];exact h3
        obtain rfl:O=false:=by rw [HO.out];simp [h2,h3]
        obtain rfl:N=false:=by rw [HN.out];simp [h1,h2]
        go_wp2
        go_meet
        case rel=>exact ⟨rfl,rfl,rfl⟩
    case rest =>
     obtain ⟨rfl,rfl,rfl⟩:=hcut
     go_upto_region 5 with fail
     go_cut [96] (fun c wx=>c = .bool F2∧Bel WE wx)
     case first =>
      clear hk HF1
      cases O with
      | true =>
        cases RO with
        | false =>
          obtain rfl:F2=true:=by rw [HF2.out];rfl
          go_wp2_with (go_at_call 66;refine (HRO.out _ HBC.out).mono ?_;rintro e1 w1 ⟨rfl,hb1⟩;have HB1:=Lib.hid (HBB.out.then_ hb1);obtain ⟨x0,x1,x2,x3,x4,x5,x6,x7⟩:=HCX.out w1 HB1.out)
          go_meet
          case rel=>exact ⟨rfl,HB1.out⟩
        | true =>
          cases N with
          | true =>
            cases RN with
            | false =>
              obtain rfl:F2=true:=by rw [HF2.out];rfl
              go_wp2_with fail
              refine (HRO.out _ HBC.out).mono ?_
              rintro e1 w1 ⟨rfl,hb1⟩
              have HB1:=Lib.hid (HBB.out.then_ hb1)
              clear x0 x1 x2 x3 x4 x5 x6 x7 hb1
              obtain ⟨x0,x1,x2,x3,x4,x5,x6,x7⟩:=HCX.out w1 HB1.out
              go_wp2_with (go_at_call 66;refine (HRN.out _ (HBE.out.then_ HB1.out)).mono ?_;rintro e2 w2 ⟨rfl,hb2⟩;have HB2:=Lib.hid (HB1.out.then_ hb2);obtain ⟨x0,x1,x2,x3,x4,x5,x6,x7⟩:=HCX.out w2 HB2.out)
              go_meet
              case rel=>exact ⟨rfl,HB2.out⟩
            | true =>
              obtain rfl:F2=false:=by rw [HF2.out];rfl
              go_wp2_with fail
              refine (HRO.out _ HBC.out).mono ?_
              rintro e1 w1 ⟨rfl,hb1⟩
              have HB1:=Lib.hid (HBB.out.then_ hb1)
              clear x0 x1 x2 x3 x4 x5 x6 x7 hb1
              obtain ⟨x0,x1,x2,x3,x4,x5,x6,x7⟩:=HCX.out w1 HB1.out
              go_wp2_with (go_at_call 66;refine (HRN.out _ (HBE.out.then_ HB1.out)).mono ?_;rintro e2 w2 ⟨rfl,hb2⟩;have HB2:=Lib.hid (HB1.out.then_ hb2);obtain ⟨x0,x1,x2,x3,x4,x5,x6,x7⟩:=HCX.out w2 HB2.out)
              go_meet
              case rel=>exact ⟨rfl,HB2.out⟩
          | false =>
            by_cases hl : 0<n.length
            ·have hlI:(0:Int)<n.length:=by omega
             obtain rfl:F2=true:=by rw [HF2.out,decide_eq_true hl];rfl
             go_wp2_with (go_at_call 66;refine (HRO.out _ HBC.out).mono ?_;rintro e1 w1 ⟨rfl,hb1⟩;have HB1:=Lib.hid (HBB.out.then_ hb1);obtain ⟨x0,x1,x2,x3,x4,x5,x6,x7⟩:=HCX.out w1 HB1.out)
             go_meet
             case rel=>exact ⟨rfl,HB1.out⟩
            ·have hlI : ¬ (0:Int)<n.length:=by omega
             obtain rfl:F2=false:=by rw [HF2.out,decide_eq_false hl];rfl
             go_wp2_with (go_at_call 66;refine (HRO.out _ HBC.out).mono ?_;rintro e1 w1 ⟨rfl,hb1⟩;have HB1:=Lib.hid (HBB.out.then_ hb1);obtain ⟨x0,x1,x2,x3,x4,x5,x6,x7⟩:=HCX.out w1 HB1.out)
             go_meet
             case rel=>exact ⟨rfl,HB1.out⟩
      | false =>
        by_cases hlo : 0<o.length
        ·have hloI:(0:Int)<o.length:=by omega
         obtain rfl:F2=true:=by rw [HF2.out,decide_eq_true hlo];simp
         go_wp2
         go_meet
         case rel=>exact ⟨rfl,HBB.out⟩
        ·have hloI : ¬ (0:Int)<o.length:=by omega
         cases N with
         | true =>
           cases RN with
           | false =>
             obtain rfl:F2=true:=by rw [HF2.out];simp
             go_wp2_with (go_at_call 66;refine (HRN.out _ HBC.out).mono ?_;rintro e2 w2 ⟨rfl,hb2⟩;have HB2:=Lib.hid (HBB.out.then_ hb2);obtain ⟨x0,x1,x2,x3,x4,x5,x6,x7⟩:=HCX.out w2 HB2.out)
             go_meet
             case rel=>exact ⟨rfl,HB2.out⟩
           | true =>
             obtain rfl:F2=false:=by rw [HF2.out,decide_eq_false hlo];rfl
             go_wp2_with (go_at_call 66;refine (HRN.out _ HBC.out).mono ?_;rintro e2 w2 ⟨rfl,hb2⟩;have HB2:=Lib.hid (HBB.out.then_ hb2);obtain ⟨x0,x1,x2,x3,x4,x5,x6,x7⟩:=HCX.out w2 HB2.out)
             go_meet
             case rel=>exact ⟨rfl,HB2.out⟩
         | false =>
           by_cases hl : 0<n.length
           ·have hlI:(0:Int)<n.length:=by omega
            obtain rfl:F2=true:=by rw [HF2.out,decide_eq_true hl];simp
            go_wp2
            go_meet
            case rel=>exact ⟨rfl,HBB.out⟩
           ·have hlI : ¬ (0:Int)<n.length:=by omega
            obtain rfl:F2=false:=by rw [HF2.out,decide_eq_false hl,decide_eq_false hlo];rfl
            go_wp2
            go_meet
            case rel=>exact ⟨rfl,HBB.out⟩
     case rest =>
      obtain ⟨rfl,hbd⟩:=hcut
      have HBD:=Lib.hid (HBE.out.then_ hbd)
      have HBF:=Lib.hid hbd
      clear x0 x1 x2 x3 x4 x5 x6 x7
      cases F2 with
      | true =>
        obtain rfl:R=false:=by rw [HR.out];rfl
        clear hbd
        go_wp2
        go_ret
        exact ⟨rfl,HBD.out⟩
      | false =>
        obtain ⟨x0,x1,x2,x3,x4,x5,x6,x7⟩:=HCX.out wc hbd
        have hR:=HR.out
        simp only [Bool.not_false,Bool.true_and] at hR
        clear hbd HR HF1 HF2 HO HN
        by_cases h2:k=2
        ·subst h2
         simp only [↓reduceIte] at hR
         by_cases hl:o.length=n.length
         ·obtain rfl:R=true:=by rw [hR];exact decide_eq_true hl
          have hlI:((o.length:Int) == n.length)=true:=by rw [beq_iff_eq];omega
          have hlJ:(o.length == n.length)=true:=by rw [beq_iff_eq];exact hl
          clear hR hl
          go_wp2
          go_ret
          exact ⟨rfl,HBD.out⟩
         ·obtain rfl:R=false:=by rw [hR];exact decide_eq_false hl
          have hlI:((o.length:Int) == n.length)=false:=by rw [beq_eq_false_iff_ne];omega
          have hlJ:(o.length == n.length)=false:=by rw [beq_eq_false_iff_ne];exact hl
          clear hR hl
          go_wp2
          go_ret
          exact ⟨rfl,HBD.out⟩
        ·rw [if_neg h2] at hR
         have h2b:(k == 2)=false:=by rw [beq_eq_false_iff_ne];exact h2
         by_cases h4:k=4
         ·subst h4
          simp only [↓reduceIte] at hR
          rw [← hR] at HRS
          clear hR
          go_wp2_with (go_at_call 67;refine (HRS.out _ HBD.out).mono ?_;rintro e1 w1 ⟨rfl,hb1⟩)
          go_ret
          exact ⟨rfl,HBD.out.then_ hb1⟩
         ·rw [if_neg h4] at hR
          have h4b:(k == 4)=false:=by rw [beq_eq_false_iff_ne];exact h4
          by_cases h6:k=6
          ·subst h6
           simp only [↓reduceIte] at hR
           have HR2:=Lib.hid hR
           clear hR
           have HRC:Hid (0<ns.length → ∃ b off,As=some ⟨b,off,none⟩ ∧ ∀ i (x:ByteArray×ByteArray),ns[i]? = some x→w.cell? ⟨b,off+i * 2,none⟩=some (.string x.1)∧w.cell? ⟨b,off+i * 2+1,none⟩=some (.string x.2)):=by
            obtain ⟨A',c',e',-,-,h'⟩:=HNS.out
            cases e'
            exact Lib.hid h'
           have hlI:(ns.length:Int)≤9223372036854775807:=by obtain ⟨A',c',e',h1,h2,-⟩:=HNS.out;unfold maxLen at h2;omega
           go_wp2
           go_loopw [6] (fun i wr=>∃ j:Nat,j≤ns.length∧i = .int .i64 j∧Hid (Bel WE wr)∧Hid (∀ p ∈ ns.take j,nameP p=true)) (fun i _=>ns.length - (intOf i).toNat)
           case atStart=>exact ⟨0,Nat.zero_le _,rfl,HBF.out,(by show ∀ p ∈ ns.take 0,_;intro x hx;simp at hx)⟩
           case round =>
            obtain ⟨j,hj,rfl,HB,HT⟩:=hrel
            obtain ⟨y0,y1,y2,y3,y4,y5,y6,y7⟩:=HCX.out wr HB.out
            by_cases hlt:j<ns.length
            ·obtain ⟨p,hp⟩ : ∃ p,ns[j]? = some p:=⟨_,List.getElem?_eq_getElem hlt⟩
             obtain ⟨b,off,rfl,hi⟩:=HRC.out (by omega)
             obtain ⟨q0,q1⟩:=hi j p hp
             have hbw:Bel w wr:=HBE.out.then_ HB.out
             have c0:=hbw.c q0
             have c1:=hbw.c q1
             have hjI:(j:Int)<ns.length:=by omega
             have hpm:p ∈ ns:=List.mem_of_getElem? hp
             have HP:=Lib.hid (HNP.out p hpm wr)
             have HNX:Hid (nameP p=true → ∀ y ∈ ns.take (j+1),nameP y=true):=Lib.hid (fun h y hy=>by
              rw [List.take_add_one,hp] at hy
              rcases List.mem_append.1 hy with hy | hy
              ·exact HT.out y hy
              ·simp at hy;rw [hy];exact h)
             have HNO:Hid (nameP p=false→R=false):=Lib.hid (fun h=>by
              rw [HR2.out]
              unfold namesB
              rw [Bool.and_eq_false_iff]
              exact .inr (by cases hh:ns.all nameP with | false=>rfl | true=>rw [List.all_eq_true.1 hh p hpm] at h;cases h))
             obtain ⟨s1,s2⟩:=p
             unfold nameP at HNX HNO
             dsimp only at *
             generalize namedB s1=N1 at HP HNX HNO
             generalize namedB s2=N2 at HP HNX HNO
             have HP1:=Lib.hid HP.out.1
             have HP2:=Lib.hid HP.out.2
             clear hi hp hpm q0 q1 hbw HP
             cases N1 with
             | false =>
               obtain rfl:R=false:=HNO.out rfl
               go_wp2_with (go_at_call 64;refine HP1.out.mono ?_;rintro e1 w1 ⟨rfl,rfl⟩)
               go_ret
               exact ⟨rfl,HBE.out.then_ HB.out⟩
             | true =>
               cases N2 with
               | false =>
                 obtain rfl:R=false:=HNO.out rfl
                 go_wp2_with fail
                 refine HP1.out.mono ?_
                 rintro e1 w1 ⟨rfl,rfl⟩
                 go_wp2_with (go_at_call 64;refine HP2.out.mono ?_;rintro e1 w1 ⟨rfl,rfl⟩)
                 go_ret
                 exact ⟨rfl,HBE.out.then_ HB.out⟩
               | true =>
                 have HN2:=Lib.hid (HNX.out rfl)
                 go_wp2_with fail
                 refine HP1.out.mono ?_
                 rintro e1 w1 ⟨rfl,rfl⟩
                 go_wp2_with (go_at_call 64;refine HP2.out.mono ?_;rintro e1 w1 ⟨rfl,rfl⟩)
                 go_roundw
                 case rel=>exact ⟨j+1,by omega,by go_num,HB.out,HN2.out⟩
                 case measure=>simp [intOf];omega
            ·obtain rfl:j=ns.length:=by omega
             have hall:=HT.out
             rw [List.take_length] at hall
             have HRA:Hid (R=decide (1≤ns.length∧ns.length≤4)):=Lib.hid (by rw [HR2.out];unfold namesB;rw [List.all_eq_true.2 hall,Bool.and_true])
             clear hall HT hlt hj HR2
             by_cases h1 : 1≤ns.length
             ·have h1I:(1:Int)≤ns.length:=by omega
              by_cases h4:ns.length≤4
              ·have h4I:(ns.length:Int)≤4:=by omega
               obtain rfl:R=true:=by rw [HRA.out];exact decide_eq_true ⟨h1,h4⟩
               clear h1 h4
               go_wp2
               go_ret
               exact ⟨rfl,HBE.out.then_ HB.out⟩
              ·have h4I:decide ((ns.length:Int)≤4)=false:=by simp;omega
               have h4N:decide (ns.length≤4)=false:=by simp;omega
               obtain rfl:R=false:=by rw [HRA.out];exact decide_eq_false (fun h=>h4 h.2)
               clear h1 h4
               go_wp2
               go_ret
               exact ⟨rfl,HBE.out.then_ HB.out⟩
             ·have h1N:ns.length=0:=by omega
              obtain rfl:R=false:=by rw [HRA.out];exact decide_eq_false (fun h=>h1 h.1)
              have h1I : ¬ (1:Int)≤ns.length:=by omega
              have h1J : ¬ 1≤ns.length:=by omega
              clear h1 h1N
              go_wp2
              go_ret
              exact ⟨rfl,HBE.out.then_ HB.out⟩
          ·rw [if_neg h6] at hR
           have h6b:(k == 6)=false:=by rw [beq_eq_false_iff_ne];exact h6
           subst hR
           go_wp2
           go_ret
           exact ⟨rfl,HBD.out⟩
end
end Go.Proofs.YtnajjhgbombboaaGreatDoor
