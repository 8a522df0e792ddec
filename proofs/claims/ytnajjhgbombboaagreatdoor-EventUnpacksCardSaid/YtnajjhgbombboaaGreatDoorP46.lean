/-
  Texts behind the statement: part 46.
-/
import Derived.Test.YtnajjhgbombboaaGreatDoorP13
import Derived.Deep.OwnRows
import Derived.Lib.ConvBytes
set_option linter.unusedVariables false
set_option linter.unusedSimpArgs false
namespace Go.Proofs.YtnajjhgbombboaaGreatDoor
section
open Go.RowKit
theorem cat_bytes (a b:List UInt8):(⟨a.toArray⟩:ByteArray) ++ (⟨b.toArray⟩:ByteArray)=⟨(a ++ b).toArray⟩:=by
 apply ByteArray.ext
 simp
end
section
open Go.RowKit Go.Lib
set_option maxRecDepth 100000 in
theorem r2read_any (s:List UInt8) (A:Option Addr) (cap:Nat) (hs:s.length≤8) (w:World) (hr:Reads w w.heap.size 1 A s.length (s.map bv)) :
 Calls Tryz.prog 120 #[.slice A s.length cap] w fun e w'=>e = .returned (.int .u64 (numN s))∧w=w':=by
 have HR:=Lib.hid hr
 have hlen:(s.length:Int)≤8:=by omega
 clear hr
 go_enter Tryz.func120,Tryz.ntmps120
 go_wp2
 go_loopw [3,4] (fun v i wr=>∃ k:Nat,k≤s.length∧i = .int .i64 k∧v = .int .u64 (numN (s.take k))∧wr=w) (fun _ i _=>s.length - (intOf i).toNat)
 case atStart=>exact ⟨0,Nat.zero_le _,rfl,rfl,rfl⟩
 case round =>
  obtain ⟨k,hk,rfl,rfl,rfl⟩:=hrel
  by_cases hlt:k<s.length
  ·obtain ⟨ad,u,hA,hb,hu,hc⟩:=HR.out.at_ (k:=k) hlt
   obtain ⟨c,hck⟩ : ∃ c,s[k]? = some c:=⟨_,List.getElem?_eq_getElem hlt⟩
   have huc:u=bv c:=by rw [List.getElem?_map,hck] at hu;simpa using hu.symm
   subst hA
   subst huc
   have hcc:wr.cell? (ad.add k)=some (.int .u8 c.toNat):=hc
   have hnum:numN (s.take (k+1))=numN (s.take k) * 256+c.toNat:=by rw [List.take_add_one,hck];exact numN_snoc _ _
   have hl:numN (s.take k)<256 ^ 7:=Nat.lt_of_lt_of_le (numN_lt _) (Nat.pow_le_pow_right (by decide) (by rw [List.length_take];omega))
   have hlI:(numN (s.take k):Int)≤72057594037927935:=by have:numN (s.take k)<72057594037927936:=hl;omega
   have hc256:c.toNat<256:=c.toNat_lt
   have hcI:(c.toNat:Int)≤255:=by omega
   generalize numN (s.take k)=m at *
   have HNUM:=Lib.hid hnum
   clear hck hu hc hb HR hnum hl
   go_wp2
   go_roundw
   case rel=>exact ⟨k+1,by omega,by go_num,by rw [HNUM.out];congr 1;push_cast;omega,by first | rfl | trivial⟩
   case measure=>simp [intOf];omega
  ·obtain rfl:k=s.length:=by omega
   rw [List.take_length] at *
   go_wp2
   go_ret
   exact ⟨rfl,rfl⟩
theorem r2ReadFixed_any (s:List UInt8) (A:Option Addr) (cap:Nat) (h1 : 1≤s.length) (hs:s.length≤8) (w:World) (hr:Reads w w.heap.size 1 A s.length (s.map bv)) :
 Calls Tryz.prog 139 #[.slice A s.length cap] w fun e w'=>e = .returned (.tuple #[.int .u64 (numN s),.int .i64 0])∧w=w':=by
 have HR:=Lib.hid (r2read_any s A cap hs w hr)
 have h1I:(1:Int)≤s.length:=by omega
 have h8I:(s.length:Int)≤8:=by omega
 clear hr hs h1
 go_enter Tryz.func139,Tryz.ntmps139
 go_wp2_with fail
 refine HR.out.mono ?_
 rintro e w' ⟨rfl,rfl⟩
 go_wp2
 go_ret2
 exact ⟨rfl,rfl⟩
theorem need_cons (h:UInt8) (t:List UInt8):needN (numN (h :: t))=(h :: t).length ↔ h.toNat ≠ 0:=by
 rw [numN_cons,List.length_cons]
 have hlt:=numN_lt t
 constructor
 ·intro he h0
  rw [h0] at he
  have:needN (0 * 256 ^ t.length+numN t)≤t.length:=(needN_le_iff _ _).2 (by omega)
  omega
 ·intro h0
  have h1 : ¬ needN (h.toNat * 256 ^ t.length+numN t)≤t.length:=fun hle=>by
   have:=(needN_le_iff _ _).1 hle
   have : 256 ^ t.length≤h.toNat * 256 ^ t.length:=Nat.le_mul_of_pos_left _ (by omega)
   omega
  have h2:needN (h.toNat * 256 ^ t.length+numN t)≤t.length+1:=(needN_le_iff _ _).2 (by
   have:=h.toNat_lt
   rw [Nat.pow_succ]
   have:(h.toNat+1) * 256 ^ t.length≤256 * 256 ^ t.length:=Nat.mul_le_mul_right _ (by omega)
   rw [Nat.add_mul] at this
   omega)
  omega
set_option maxRecDepth 100000 in
set_option maxHeartbeats 2000000 in
theorem r2ReadNumber_any (v:Value) (s:List UInt8) (hs:s.length≤1000000) (w:World) (h:BsAt w v s):Calls Tryz.prog 77 #[v] w fun e w'=>e = .returned (numV (rdNum s))∧w=w':=by
 have HB:=Lib.hid h
 obtain ⟨R,hR⟩ : ∃ R,R=rdNum s:=⟨_,rfl⟩
 rw [← hR]
 have HR:=Lib.hid hR
 clear hR
 obtain ⟨A,c,rfl,hc,hcm,-⟩:=h
 cases s with
 | nil =>
   have hf:R=none:=HR.out
   clear hs hc
   go_enter Tryz.func77,Tryz.ntmps77
   go_wp2
   go_ret3
   exact ⟨by first | rfl | (rw [hf];rfl),rfl⟩
 | cons hd t =>
   obtain ⟨ad,rfl,p0,-,-⟩:=HB.out.head
   have hcell:w.cell? ad=some (.int .u8 hd.toNat):=p0
   have htl:=fun k h0 hk=>HB.out.tail k h0 hk
   have hlI:(t.length:Int)≤999999:=by simp at hs;omega
   have hcI:t.length+1≤c:=by simpa using hc
   have hcJ:(t.length:Int)+1≤c:=by omega
   have hz0:((t.length:Int)+1 == 0)=false:=by rw [beq_eq_false_iff_ne];omega
   have HRD:Hid (R=if 8<hd.toNat ∨ t.length<hd.toNat then none else if needN (numN (t.take hd.toNat))=hd.toNat then some (numN (t.take hd.toNat),1+hd.toNat) else none):=HR.out
   obtain ⟨b,off,spot⟩:=ad
   obtain rfl:spot=none:=World.cell?_spot hcell
   have hd256:hd.toNat≤255:=by have:=hd.toNat_lt;omega
   clear p0 hs hc HR HB
   generalize hd.toNat=K at *
   by_cases h8 : 8<K
   ·have hf:R=none:=by rw [HRD.out,if_pos (.inl h8)]
    have h8I:(8:Int)<K:=by omega
    go_enter Tryz.func77,Tryz.ntmps77
    go_wp2
    go_ret3
    exact ⟨by first | rfl | (rw [hf];rfl),rfl⟩
   ·have h8b:decide ((8:Int)<K)=false:=by simp;omega
    have h8I:(K:Int)≤8:=by omega
    by_cases hlt:t.length<K
    ·have hf:R=none:=by rw [HRD.out,if_pos (.inr hlt)]
     have hltI:(t.length:Int)<K:=by omega
     go_enter Tryz.func77,Tryz.ntmps77
     go_wp2
     go_ret3
     exact ⟨by first | rfl | (rw [hf];rfl),rfl⟩
    ·have hltb:decide (t.length<K)=false:=by simp;omega
     have hKl:K≤t.length:=by omega
     obtain ⟨s,hs⟩ : ∃ s,s=t.take K:=⟨_,rfl⟩
     have HRS:Hid (R=if needN (numN s)=K then some (numN s,1+K) else none):=by show _=_;rw [HRD.out,if_neg (by omega),hs]
     have hsl:s.length=K:=by rw [hs,List.length_take];omega
     by_cases h0:K=0
     ·subst h0
      have hs0:s=[]:=List.eq_nil_of_length_eq_zero hsl
      subst hs0
      have hf:R=some (0,1):=HRS.out
      have HNM:=Lib.hid (fun (V:World) (A':Option Addr) (c':Nat)=>r2read_any [] A' c' (by simp) V ⟨by simp,fun h=>by simp at h⟩)
      have hnl:numN []=0:=rfl
      rw [hnl] at HNM
      clear hs htl hsl HRD hnl
      by_cases hc1:c=1
      ·go_enter Tryz.func77,Tryz.ntmps77
       go_wp2_with fail
       refine (HNM.out _ _ _).mono ?_
       rintro e w' ⟨rfl,rfl⟩
       go_wp2
       go_ret3
       exact ⟨by rw [hf];rfl,rfl⟩
      ·go_enter Tryz.func77,Tryz.ntmps77
       go_wp2_with fail
       refine (HNM.out _ _ _).mono ?_
       rintro e w' ⟨rfl,rfl⟩
       go_wp2
       go_ret3
       exact ⟨by rw [hf];rfl,rfl⟩
     ·have hKp : 0<K:=by omega
      have hKpI:(0:Int)<K:=by omega
      obtain ⟨x,xs,hxs⟩ : ∃ x xs,s=x :: xs:=by cases s with
       | nil=>simp at hsl;omega
       | cons a b=>exact ⟨a,b,rfl⟩
      have hr:=htl K hKp hKl
      rw [add_free] at hr
      rw [← hs,← hsl] at hr
      have HNM:=Lib.hid (r2read_any s (some ⟨b,off+1,none⟩) (c - 1) (by omega) w hr)
      have hx1:w.cell? ⟨b,off+1,none⟩=some (.int .u8 x.toNat):=by
       obtain ⟨ad,e,-,hc⟩:=hr.2 (by omega)
       cases e
       have:=hc 0 (bv x) (by rw [hxs];rfl)
       rw [add_free,Nat.add_zero] at this
       exact this
      have hne:needN (numN s)=K ↔ x.toNat ≠ 0:=by
       rw [← hsl,hxs]
       exact need_cons x xs
      have HRX:Hid ((x.toNat=0→R=none)∧(x.toNat ≠ 0→R=some (numN s,1+K))):=⟨fun h=>by rw [HRS.out,if_neg (fun e=>hne.1 e h)],fun h=>by rw [HRS.out,if_pos (hne.2 h)]⟩
      clear HRS
      have hxI:(x.toNat:Int)≤255:=by have:=x.toNat_lt;omega
      rw [hsl] at HNM
      have hc1 : ¬ c=1:=by omega
      have hcc:((c:Int) - 1).toNat=c - 1:=by omega
      clear hs htl hr hsl HRD h0 hlt hne hxs
      generalize numN s=n at *
      generalize x.toNat=X at *
      by_cases hX:X=0
      ·have hf:R=none:=HRX.out.1 hX
       have hXb:((X:Int) == 0)=true:=by rw [beq_iff_eq];omega
       clear hX
       go_enter Tryz.func77,Tryz.ntmps77
       go_wp2
       go_ret3
       exact ⟨by first | rfl | (rw [hf];rfl),rfl⟩
      ·have hf:R=some (n,1+K):=HRX.out.2 hX
       have hXb:((X:Int) == 0)=false:=by rw [beq_eq_false_iff_ne];omega
       clear hX
       go_enter Tryz.func77,Tryz.ntmps77
       go_wp2_with fail
       refine HNM.out.mono ?_
       rintro e w' ⟨rfl,rfl⟩
       go_wp2
       go_ret3
       exact ⟨by rw [hf];unfold numV;simp,rfl⟩
end
section
open Go.RowKit Go.Shelf Go.Lib
attribute [local go_sem] Oper.semAt_some
def krGive:Option (Val×Nat)→Value
 | some (x,n)=>.tuple #[x.v,.int .i64 n]
 | none=>.tuple #[noVal.v,.int .i64 0]
def krG:Option (List UInt8×Nat)→Value
 | some (y,n)=>krGive (some (⟨4,0,0,⟨y.toArray⟩⟩,n))
 | none=>krGive none
theorem takes_at (s:List UInt8) (a n k j:Nat) (h:j<k):(((s.drop a).drop n).take k)[j]? = s[a+n+j]?:=by
 rw [List.getElem?_take,if_pos h,List.getElem?_drop,List.getElem?_drop]
 congr 1
 omega
theorem takes_zeros {s:List UInt8} {a n k:Nat} (h : ∀ q,q<k→s[a+n+q]? = some 0):((s.drop a).drop n).take k=zeros k:=by
 apply List.ext_getElem?
 intro j
 unfold zeros
 by_cases hj:j<k
 ·rw [takes_at _ _ _ _ _ hj,h j hj,List.getElem?_replicate,if_pos hj]
 ·rw [List.getElem?_eq_none (by rw [List.length_take];omega),List.getElem?_eq_none (by simp;omega)]
def krInv (s:List UInt8) (R:Option (List UInt8×Nat)) (a f:Nat) (acc:List UInt8):Prop:=s.length≤a+f∧((acc.length≤200∧(rdG f acc (s.drop a)).map (fun x=>(x.1,x.2+a))=R) ∨ (200<acc.length∧R=none))
set_option maxRecDepth 100000 in
set_option maxHeartbeats 4000000 in
theorem krread_any (s:List UInt8) (hs:s.length≤2000) (w:World):Calls Tryz.prog 140 #[strV s,.agg #[.int .i64 4,.int .i64 0,.int .u64 0,.string ⟨#[]⟩]] w fun e w'=>e = .returned (krG ((rdG s.length [] (s.drop 1)).map fun x=>(x.1,x.2+1)))∧Bel w w':=by
 obtain ⟨R,hR⟩ : ∃ R,(rdG s.length [] (s.drop 1)).map (fun x=>(x.1,x.2+1))=R:=⟨_,rfl⟩
 rw [hR]
 have HI:Hid (krInv s R 1 s.length []):=Lib.hid ⟨by omega,.inl ⟨by simp,hR⟩⟩
 clear hR
 have hsI:(s.length:Int)≤2000:=by omega
 unfold strV
 go_enter Tryz.func140,Tryz.ntmps140
 go_wp2
 go_loopw [6] (fun i wr=>∃ (a f:Nat) (acc:List UInt8),i = .int .i64 a∧1≤a∧a≤2010∧acc.length≤208∧Hid (krInv s R a f acc) ∧ ∃ w0,w0.heap.size=w.heap.size∧Hid (Bel w w0)∧wr=(w0.alloc (.cells #[.int .i64 4,.int .i64 0,.int .u64 0,.string ⟨acc.toArray⟩] 64)).alloc (.cells #[.int .i64 0,.int .i64 0,.int .u64 0,.string ⟨#[]⟩] 64)) (fun i _=>(3000 - intOf i).toNat)
 case atStart=>exact ⟨1,s.length,[],rfl,by omega,by omega,by simp,HI,w,rfl,Lib.hid (Bel.refl w),rfl⟩
 case round =>
  obtain ⟨a,f,acc,rfl,ha1,ha2,hac,HR,w0,hw0,HB0,rfl⟩:=hrel
  have hal:(acc.length:Int)≤208:=by omega
  by_cases ha9:(a:Int)+9≤s.length
  case neg =>
   have hRn:R=none:=by
    rcases HR.out with ⟨hlen,⟨-,h⟩ | ⟨-,h⟩⟩
    ·rw [rdG_none (by rw [List.length_drop];omega)] at h
     exact h.symm
    ·exact h
   subst hRn
   go_wp2
   refine bodyPost_ret (v:=.tuple #[noVal.v,.int .i64 0]) (by simp [results,Tryz.results140,go_sem,noVal,Val.v,hw0]) rfl ⟨rfl,?_⟩
   exact HB0.out.then_ (by (repeat (first | exact Bel.refl _ | refine Bel.alloc ?_ _ | refine Bel.drew ?_)))
  by_cases h200:(acc.length:Int)≤200
  case neg =>
   have hRn:R=none:=by
    rcases HR.out with ⟨hlen,⟨h0,h⟩ | ⟨-,h⟩⟩
    ·omega
    ·exact h
   subst hRn
   go_wp2
   refine bodyPost_ret (v:=.tuple #[noVal.v,.int .i64 0]) (by simp [results,Tryz.results140,go_sem,noVal,Val.v,hw0]) rfl ⟨rfl,?_⟩
   exact HB0.out.then_ (by (repeat (first | exact Bel.refl _ | refine Bel.alloc ?_ _ | refine Bel.drew ?_)))
  obtain ⟨c8,hc8⟩ : ∃ c,s[a+8]? = some c:=⟨_,List.getElem?_eq_getElem (by omega)⟩
  obtain ⟨g,rfl⟩ : ∃ g,f=g+1:=⟨f - 1,by have:=HR.out.1;omega⟩
  have hix:=fun W=>index_bytes hc8 (i:=(a:Int)+8) (by omega) W
  have hgd:(s.drop a).getD 8 0=c8:=by rw [List.getD_eq_getElem?_getD,List.getElem?_drop,hc8];rfl
  have HST:Hid ((rdG (g+1) acc (s.drop a)).map (fun x=>(x.1,x.2+a))=R):=by
   rcases HR.out with ⟨hlen,⟨-,h⟩ | ⟨h,-⟩⟩
   ·exact Lib.hid h
   ·omega
  have hlen:=HR.out.1
  unfold rdG at HST
  rw [hgd,if_neg (by rw [List.length_drop];omega)] at HST
  have hn255:(c8.toNat:Int)≤255:=by have:=c8.toNat_lt;omega
  generalize hn:c8.toNat=n at *
  clear hgd hc8 hn HR
  by_cases h9:(n:Int) > 9
  ·have hRn:=HST.out
   rw [if_pos (by omega)] at hRn
   subst hRn
   go_wp2
   refine bodyPost_ret (v:=.tuple #[noVal.v,.int .i64 0]) (by simp [results,Tryz.results140,go_sem,noVal,Val.v,hw0]) rfl ⟨rfl,?_⟩
   exact HB0.out.then_ (by (repeat (first | exact Bel.refl _ | refine Bel.alloc ?_ _ | refine Bel.drew ?_)))
  rw [if_neg (by omega)] at HST
  by_cases he9:n=9
  ·subst he9
   have hex:(⟨s.toArray⟩:ByteArray).extract a (a+8)=⟨((s.drop a).take 8).toArray⟩:=by rw [mid_bytes,Nat.add_sub_cancel_left]
   have htn:((a:Int)+8).toNat=a+8:=by omega
   have hcat:(⟨acc.toArray⟩:ByteArray) ++ (⟨((s.drop a).take 8).toArray⟩:ByteArray)=⟨(acc ++ (s.drop a).take 8).toArray⟩:=cat_bytes _ _
   have hl8:((s.drop a).take 8).length=8:=by rw [List.length_take,List.length_drop];omega
   have hsz : ¬ 9223372036854775807<acc.length+((s.drop a).take 8).length:=by omega
   go_wp2
   go_region
   go_wp2
   have hl2:(acc ++ (s.drop a).take 8).length=acc.length+8:=by rw [List.length_append,hl8]
   have HN:Hid (krInv s R (a+9) g (acc ++ (s.drop a).take 8)):=by
    refine Lib.hid ⟨by omega,?_⟩
    have h:=HST.out
    rw [show min 9 8=8 from rfl,hl2] at h
    rw [hl2]
    by_cases hb : 200<acc.length+8
    ·rw [if_pos hb] at h
     exact .inr ⟨by omega,h.symm⟩
    ·rw [if_neg hb] at h
     simp only [if_true] at h
     refine .inl ⟨by omega,?_⟩
     rw [← h,Option.map_map,List.drop_drop]
     congr 1
     funext x
     simp
     omega
   go_roundw
   case rel=>exact ⟨a+9,g,acc ++ (s.drop a).take 8,by go_num,by omega,by omega,by omega,HN,w0.drew,hw0,Lib.hid HB0.out.drew,rfl⟩
   case measure=>simp [intOf];omega
  ·have hex:(⟨s.toArray⟩:ByteArray).extract a (a+n)=⟨((s.drop a).take n).toArray⟩:=by rw [mid_bytes,Nat.add_sub_cancel_left]
   have htn:((a:Int)+n).toNat=a+n:=by omega
   have hcat:(⟨acc.toArray⟩:ByteArray) ++ (⟨((s.drop a).take n).toArray⟩:ByteArray)=⟨(acc ++ (s.drop a).take n).toArray⟩:=cat_bytes _ _
   have hln:((s.drop a).take n).length=n:=by rw [List.length_take,List.length_drop];omega
   have hsz : ¬ 9223372036854775807<acc.length+((s.drop a).take n).length:=by omega
   have hn8:(n:Int)≤8:=by omega
   have hne9:((n:Int) == 9)=false:=by rw [beq_eq_false_iff_ne];omega
   go_wp2
   go_region
   go_wp2
   have hmn:min n 8=n:=by omega
   have hl2:(acc ++ (s.drop a).take n).length=acc.length+n:=by rw [List.length_append,hln]
   rw [hmn,hl2,if_neg he9] at HST
   have HHI:Hid (∀ (j:Nat),n+j<8 → ∃ c,s[a+n+j]? = some c):=Lib.hid (fun j hj=>⟨_,List.getElem?_eq_getElem (by omega)⟩)
   have HLN:=Lib.hid hln
   have HL2:=Lib.hid hl2
   clear hmn hl2 hln hex htn hcat hsz hix hlen
   generalize hy:acc ++ (s.drop a).take n=y at *
   go_loopw [8] (fun i wr2=>∃ j:Nat,n+j≤8∧i = .int .i64 ((a:Int)+n+j)∧Hid (∀ q,q<j→s[a+n+q]? = some 0)∧wr2=((w0.alloc (.cells #[.int .i64 4,.int .i64 0,.int .u64 0,.string ⟨y.toArray⟩] 64)).alloc (.cells #[.int .i64 0,.int .i64 0,.int .u64 0,.string ⟨#[]⟩] 64)).drew) (fun i _=>(3000 - intOf i).toNat)
   case atStart=>exact ⟨0,by omega,by simp,Lib.hid (fun q hq=>by omega),rfl⟩
   case round =>
    obtain ⟨j,hj8,rfl,HZ,rfl⟩:=hrel
    by_cases hj:n+j<8
    ·obtain ⟨c,hc⟩:=HHI.out j hj
     have hix:=fun W=>index_bytes hc (i:=(a:Int)+n+j) (by omega) W
     have HC:Hid (c.toNat=0 ↔ c=0):=Lib.hid ⟨fun h=>UInt8.toNat_inj.1 (by rw [h];rfl),fun h=>by rw [h];rfl⟩
     have hm255:(c.toNat:Int)≤255:=by have:=c.toNat_lt;omega
     have HCC:=Lib.hid hc
     generalize hm:c.toNat=m at *
     have hjI:(n:Int)+j<8:=by omega
     clear hc hm
     by_cases hm0:m=0
     ·subst hm0
      go_wp2
      go_roundw
      case rel=>exact ⟨j+1,by omega,by go_num,Lib.hid (fun q hq=>by
       by_cases e:q<j
       ·exact HZ.out q e
       ·obtain rfl:q=j:=by omega
        rw [HCC.out,HC.out.1 rfl]),(by first | rfl | trivial)⟩
      case measure=>simp [intOf];omega
     ·have hmI:((m:Int) == 0)=false:=by rw [beq_eq_false_iff_ne];omega
      have hRn:R=none:=by
       rw [← HST.out]
       by_cases hb : 200<acc.length+n
       ·rw [if_pos hb];rfl
       ·rw [if_neg hb,if_neg]
        ·rfl
        ·intro hh
         have h2:=congrArg (fun l=>l[j]?) hh.1
         simp only [takes_at _ _ _ _ _ (show j<8 - n by omega),HCC.out,zeros,List.getElem?_replicate,if_pos (show j<8 - n by omega)] at h2
         exact hm0 (HC.out.2 (Option.some.inj h2))
      subst hRn
      clear HST HI
      go_wp2
      refine bodyPost_ret (v:=.tuple #[noVal.v,.int .i64 0]) (by simp [results,Tryz.results140,go_sem,noVal,Val.v,hw0]) rfl ⟨rfl,?_⟩
      exact HB0.out.then_ (by (repeat (first | exact Bel.refl _ | refine Bel.alloc ?_ _ | refine Bel.drew ?_)))
    ·obtain rfl:j=8 - n:=by omega
     have hji:(n:Int)+((8 - n:Nat):Int)=8:=by omega
     have hji2:(a:Int)+(n:Int)+((8 - n:Nat):Int)=a+8:=by omega
     rw [takes_zeros HZ.out] at HST
     have hyl:=HL2.out
     by_cases hb : 200<acc.length+n
     ·have hRn:=HST.out
      rw [if_pos hb] at hRn
      subst hRn
      have hyI:(y.length:Int) > 200:=by omega
      clear hyl hb
      go_wp2
      refine bodyPost_ret (v:=.tuple #[noVal.v,.int .i64 0]) (by simp [results,Tryz.results140,go_sem,noVal,Val.v,hw0]) rfl ⟨rfl,?_⟩
      exact HB0.out.then_ (by (repeat (first | exact Bel.refl _ | refine Bel.alloc ?_ _ | refine Bel.drew ?_)))
     have hyI:(y.length:Int)≤200:=by omega
     rw [if_neg hb] at HST
     by_cases h0 : 0<n
     ·have hRs:=HST.out
      rw [if_pos ⟨rfl,.inl h0⟩] at hRs
      have hn0:((n:Int) == 0)=false:=by rw [beq_eq_false_iff_ne];omega
      clear hyl hb HST HI
      go_wp2
      refine bodyPost_ret (v:=.tuple #[.agg #[.int .i64 4,.int .i64 0,.int .u64 0,.string ⟨y.toArray⟩],.int .i64 ((a:Int)+9)]) (by simp [results,Tryz.results140,go_sem,hw0]) rfl ⟨?_,?_⟩
      ·rw [← hRs]
       simp [krG,krGive,Val.v]
       omega
      ·exact HB0.out.then_ (by (repeat (first | exact Bel.refl _ | refine Bel.alloc ?_ _ | refine Bel.drew ?_)))
     ·obtain rfl:n=0:=by omega
      by_cases hacc0:acc=[]
      ·have hRs:=HST.out
       rw [if_pos ⟨rfl,.inr hacc0⟩] at hRs
       subst hacc0
       have hy0:(y.length:Int)=0:=by rw [hyl];rfl
       clear hyl hb HST HI
       go_wp2
       refine bodyPost_ret (v:=.tuple #[.agg #[.int .i64 4,.int .i64 0,.int .u64 0,.string ⟨y.toArray⟩],.int .i64 ((a:Int)+9)]) (by simp [results,Tryz.results140,go_sem,hw0]) rfl ⟨?_,?_⟩
       ·rw [← hRs]
        simp [krG,krGive,Val.v]
        omega
       ·exact HB0.out.then_ (by (repeat (first | exact Bel.refl _ | refine Bel.alloc ?_ _ | refine Bel.drew ?_)))
      ·have hRn:=HST.out
       rw [if_neg (by intro hh;rcases hh.2 with h | h;exact absurd h h0;exact hacc0 h)] at hRn
       subst hRn
       have hy0:(y.length:Int) > 0:=by have:=List.length_pos_iff.2 hacc0;omega
       clear hyl hb
       go_wp2
       refine bodyPost_ret (v:=.tuple #[noVal.v,.int .i64 0]) (by simp [results,Tryz.results140,go_sem,noVal,Val.v,hw0]) rfl ⟨rfl,?_⟩
       exact HB0.out.then_ (by (repeat (first | exact Bel.refl _ | refine Bel.alloc ?_ _ | refine Bel.drew ?_)))
end
end Go.Proofs.YtnajjhgbombboaaGreatDoor
