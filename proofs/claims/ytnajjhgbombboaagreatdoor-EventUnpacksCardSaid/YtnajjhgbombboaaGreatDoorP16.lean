/-
  Texts behind the statement: part 16.
-/
import Derived.Test.YtnajjhgbombboaaGreatDoorP15
set_option linter.unusedVariables false
set_option linter.unusedSimpArgs false
namespace Go.Proofs.YtnajjhgbombboaaGreatDoor
section
open Go.RowKit Go.Shelf Go.Lib
attribute [local go_sem] Oper.semAt_some
def kItemsF:Nat→List UInt8→Nat→List (Nat×Val)
 | 0,_,_=>[]
 | f+1,s,a=>match rdKeyV (s.drop a) with
   | some (x,m)=>(a,x) :: kItemsF f s (a+m)
   | none=>[]
def kItems (s:List UInt8):List (Nat×Val):=kItemsF (s.length+1) s 0
def kPath (s:List UInt8):List (Nat×Val)→Nat→Nat→Prop
 | [],a,b=>a=b
 | (i,x) :: l,a,b=>i=a ∧ ∃ m,rdKeyV (s.drop a)=some (x,m)∧kPath s l (a+m) b
theorem kPath_app {s:List UInt8} : ∀ (l:List (Nat×Val)) (k:List (Nat×Val)) (a b:Nat),kPath s (l ++ k) a b ↔ ∃ c,kPath s l a c∧kPath s k c b
 | [],k,a,b=>by simp [kPath]
 | (i,x) :: l,k,a,b=>by
  show (i=a ∧ ∃ m,rdKeyV (s.drop a)=some (x,m)∧kPath s (l ++ k) (a+m) b) ↔ ∃ c,(i=a ∧ ∃ m,rdKeyV (s.drop a)=some (x,m)∧kPath s l (a+m) c)∧kPath s k c b
  constructor
  ·rintro ⟨h1,m,h2,h3⟩
   obtain ⟨c,h4,h5⟩:=(kPath_app l k _ _).1 h3
   exact ⟨c,⟨h1,m,h2,h4⟩,h5⟩
  ·rintro ⟨c,⟨h1,m,h2,h3⟩,h4⟩
   exact ⟨h1,m,h2,(kPath_app l k _ _).2 ⟨c,h3,h4⟩⟩
theorem kPath_le {s:List UInt8} : ∀ (l:List (Nat×Val)) (a b:Nat),kPath s l a b→a≤s.length→l.length+a≤b∧b≤s.length
 | [],a,b,h,ha=>by obtain rfl:a=b:=h;simp;omega
 | (i,x) :: l,a,b,h,ha=>by
  obtain ⟨h1,m,h2,h3⟩:=h
  have:=rdKeyV_le h2
  rw [List.length_drop] at this
  have:=kPath_le l _ _ h3 (by omega)
  simp
  omega
theorem kItemsF_path {s:List UInt8} : ∀ (f a:Nat),a≤s.length→s.length<a+f → ∃ b,kPath s (kItemsF f s a) a b∧rdKeyV (s.drop b)=none
 | 0,a,h,h2=>by omega
 | f+1,a,h,h2=>by
   unfold kItemsF
   cases hr:rdKeyV (s.drop a) with
   | none=>exact ⟨a,rfl,hr⟩
   | some q =>
     obtain ⟨x,m⟩:=q
     have:=rdKeyV_le hr
     rw [List.length_drop] at this
     obtain ⟨b,h3,h4⟩:=kItemsF_path (s:=s) f (a+m) (by omega) (by omega)
     exact ⟨b,⟨rfl,m,hr,h3⟩,h4⟩
theorem kItems_path (s:List UInt8) : ∃ b,kPath s (kItems s) 0 b∧rdKeyV (s.drop b)=none:=kItemsF_path _ 0 (Nat.zero_le _) (by omega)
theorem kPath_fun {s:List UInt8} : ∀ (l:List (Nat×Val)) (a b c:Nat),kPath s l a b→kPath s l a c→b=c
 | [],a,b,c,h,k=>h.symm.trans k
 | (i,x) :: l,a,b,c,h,k=>by
  obtain ⟨h1,m,h2,h3⟩:=h
  obtain ⟨k1,n,k2,k3⟩:=k
  rw [h2] at k2
  injection k2 with e
  injection e with _ e
  subst e
  exact kPath_fun l _ _ _ h3 k3
theorem rdKeysF_path {s:List UInt8} : ∀ (l:List (Nat×Val)) (a b f:Nat),kPath s l a b→rdKeyV (s.drop b)=none→a≤s.length→s.length≤a+f→rdKeysF f (s.drop a)=if b=s.length then some (l.map Prod.snd) else none
 | [],a,b,f,h,hn,ha,hf=>by
   obtain rfl:a=b:=h
   by_cases hb:a=s.length
   ·rw [if_pos hb,hb,List.drop_length]
    cases f <;> rfl
   ·rw [if_neg hb]
    obtain ⟨g,rfl⟩ : ∃ g,f=g+1:=⟨f - 1,by omega⟩
    cases hd:s.drop a with
    | nil=>have:=congrArg List.length hd;rw [List.length_drop] at this;simp at this;omega
    | cons c t =>
      rw [hd] at hn
      unfold rdKeysF
      rw [hn]
 | (i,x) :: l,a,b,f,h,hn,ha,hf=>by
  obtain ⟨h1,m,h2,h3⟩:=h
  have hm:=rdKeyV_le h2
  rw [List.length_drop] at hm
  obtain ⟨g,rfl⟩ : ∃ g,f=g+1:=⟨f - 1,by omega⟩
  have ih:=rdKeysF_path l _ _ g h3 hn (by omega) (by omega)
  cases hd:s.drop a with
  | nil=>have:=congrArg List.length hd;rw [List.length_drop] at this;simp at this;omega
  | cons c t =>
    rw [hd] at h2
    unfold rdKeysF
    rw [h2]
    dsimp only
    rw [← hd,List.drop_drop,ih]
    split <;> simp
theorem rdKeys_items {s:List UInt8} {b:Nat} (h:kPath s (kItems s) 0 b) (hn:rdKeyV (s.drop b)=none):rdKeys s=if b=s.length∧s.length≤2000 then some ((kItems s).map Prod.snd) else none:=by
 unfold rdKeys
 by_cases h2 : 2000<s.length
 ·rw [if_pos h2,if_neg (by omega)]
 ·rw [if_neg h2]
  have:=rdKeysF_path _ 0 b s.length h hn (Nat.zero_le _) (by omega)
  rw [List.drop_zero] at this
  rw [this]
  by_cases hb:b=s.length
  ·rw [if_pos hb,if_pos ⟨hb,by omega⟩]
  ·rw [if_neg hb,if_neg (fun h=>hb h.1)]
theorem kyEach_any (s:ByteArray) (w:World):Calls Tryz.prog 127 #[.string s] w fun e w'=>e = .returned (.func (.func 170) #[] #[.pointer (some ⟨w.heap.size,0,none⟩)])∧w.alloc (.cells #[.string s] 9)=w':=by
 go_enter Tryz.func127,Tryz.ntmps127
 go_wp2
 go_ret
 exact ⟨rfl,rfl⟩
set_option maxRecDepth 100000 in
set_option maxHeartbeats 4000000 in
theorem kyEachC_seq (n:Nat) (hn : 6≤n) {w:World} {B:Nat} (S:Nat→Prop) (s:List UInt8) (hs:s.length≤1000000) (c1:w.cell? ⟨B,0,none⟩=some (strV s)) (s1:S B) :
  SeqF Fence.wide n Tryz.prog 170 #[] #[.pointer (some ⟨B,0,none⟩)] (fun x _=>x.2 = #[.int .i64 x.1.1,x.1.2.v]) S (kItems s) w:=fun l' J Jx W hW hJ hY hJ0=>by
 have HD:=Lib.hid (hW.cell (p:=⟨B,0,none⟩) s1 c1)
 have HJ:=Lib.hid hJ
 have HY:=Lib.hid hY
 have HJ0:=Lib.hid hJ0
 have HONE:=Lib.hid (fun (t:List UInt8) (ht:t.length≤1000000) V=>kyOne_any t ht V)
 have hdb:=fun a=>drop_bytes s a
 have hsI:(s.length:Int)≤1000000:=by omega
 unfold strV at HD HONE
 have HST:Hid (kItems s=[] ++ kItemsF (s.length+1) s 0):=Lib.hid rfl
 generalize kItems s=L at *
 clear hJ hY hJ0 c1 hW
 refine callsIn_of_wp Tryz.func170 rfl trivial ?_ rfl
 simp only [Tryz.ntmps170,List.size_toArray,List.length_cons,List.length_nil,Nat.reduceAdd,Nat.reduceSub,Array.replicate_succ,Array.replicate_zero,List.push_toArray,List.append_toArray,List.nil_append,List.cons_append]
 gi_wp2
 refine wpIn_scope_wide ?_
 gi_wp2_with fail
 refine wpIn_label ?_
 gi_wp2_with fail
 gi_loopw [3] (fun v wr=>∃ (a f:Nat) (pre:List (Nat×Val)),v = .int .i64 a∧a≤s.length∧s.length<a+f∧Hid (L=pre ++ kItemsF f s a∧J pre wr∧OwnS S W.heap.size W wr)) (fun v _=>s.length - (intOf v).toNat)
 case atStart=>exact ⟨0,s.length+1,[],rfl,Nat.zero_le _,by omega,HST.out,HJ0.out,OwnS.refl _ _ _⟩
 case round =>
  obtain ⟨a,f,pre,rfl,ha,hf,HR⟩:=hrel
  obtain ⟨g,rfl⟩ : ∃ g,f=g+1:=⟨f - 1,by omega⟩
  have p1:=HR.out.2.2.below.cell (p:=⟨B,0,none⟩) s1 HD.out
  have haI:(a:Int)≤s.length:=by omega
  have HO:=HONE.out (s.drop a) (by rw [List.length_drop];omega) wr
  have hL:=HR.out.1
  unfold kItemsF at hL
  cases hrd:rdKeyV (s.drop a) with
  | none =>
    rw [hrd] at HO hL
    unfold kOne noVal Val.v at HO
    have HO2:=Lib.hid HO
    obtain rfl:L=pre:=by simpa using hL
    clear HO hrd hL
    gi_wp2_with fail
    refine ⟨trivial,fun _=>by omega,(callsIn_wide.2 HO2.out).mono ?_⟩
    rintro e4 w4 ⟨rfl,hb4⟩
    have HFIN:=Lib.hid (HJ.out _ _ _ HR.out.2.1 (hb4.alloc (.cells #[.int .i64 0,.int .i64 0,.int .u64 0,.string ⟨#[]⟩] 64)))
    gi_wp2_with fail
    refine ⟨(fun _ h=>by cases h),?_⟩
    gi_wp2
    first | rw [Exit.noGoto_ret] | rw [Exit.noGoto_normal]
    first | go_end0 | refine bodyPost_ret (results_none rfl _ _ _) rfl ?_
    exact ⟨⟨_,rfl⟩,.inl HFIN.out⟩
  | some q =>
    obtain ⟨x,m⟩:=q
    have hml:=rdKeyV_le hrd
    rw [List.length_drop] at hml
    rw [hrd] at HO hL
    dsimp only at hL
    unfold kOne at HO
    have HL:=Lib.hid hL
    have hmI:(a:Int)+m≤s.length:=by omega
    have HVV:Hid (x.v = .agg #[.int .i64 x.k,.int .i64 x.n,.int .u64 x.u,.string x.b]):=rfl
    obtain ⟨xk,xn,xu,xb⟩:=x
    unfold Val.v at HO
    dsimp only at *
    have HO2:=Lib.hid HO
    have HML:=Lib.hid hml
    clear HO hrd hL hml
    gi_wp2_with fail
    refine ⟨trivial,fun _=>by omega,(callsIn_wide.2 HO2.out).mono ?_⟩
    rintro e4 w4 ⟨rfl,hb4⟩
    have hal:=hb4.alloc (.cells #[.int .i64 xk,.int .i64 xn,.int .u64 xu,.string xb] 64)
    obtain ⟨fn,tmps,assign,body,hy,hRR⟩:=HY.out pre (a,⟨xk,xn,xu,xb⟩) #[.int .i64 a,.agg #[.int .i64 xk,.int .i64 xn,.int .u64 xu,.string xb]] (kItemsF g s (a+m)) (w4.alloc (.cells #[.int .i64 xk,.int .i64 xn,.int .u64 xu,.string xb] 64)) HL.out (HJ.out _ _ _ HR.out.2.1 hal) rfl
    have HAL:=Lib.hid hal
    clear hb4 hal
    gi_wp2
    refine ⟨fun _=>by omega,hRR.mono ?_⟩
    rintro e W3 (⟨rfl,hJ3,hk3⟩ | ⟨rfl,hJx3⟩)
    ·gi_wp2
     go_roundw
     case rel=>exact ⟨a+m,g,pre ++ [(a,⟨xk,xn,xu,xb⟩)],by first | rfl | go_num | (simp;done),by have:=HML.out;omega,by have:=HML.out;omega,by rw [HL.out];simp,hJ3,(HR.out.2.2.trans (OwnS.of_bel HAL.out)).trans hk3⟩
     case measure=>have:=HML.out;simp [intOf];omega
    ·gi_wp2
     first | rw [Exit.noGoto_ret] | rw [Exit.noGoto_normal]
     first | go_end0 | refine bodyPost_ret (results_none rfl _ _ _) rfl ?_
     exact ⟨⟨_,rfl⟩,.inr ⟨_,_,_,HL.out,hJx3⟩⟩
end
section
open Go.RowKit Go.Shelf Go.Lib
theorem zinfoI:(Tryz.prog.info? 3).map (fun i=>(i.zero,i.size,i.bytes))=some (some (.int .i64 0),1,8):=by kernel_rfl
theorem bs_at {w:World} {A:Option Addr} {s:List UInt8} (h:Reads w w.heap.size 1 A s.length (s.map bv)) (h0 : 0<s.length) : ∃ b off,A=some ⟨b,off,none⟩ ∧ ∀ (k:Nat) (x:UInt8),s[k]? = some x→w.cell? ⟨b,off+k,none⟩=some (.int .u8 x.toNat):=by
 obtain ⟨⟨b,off,sp⟩,rfl,hb,hc⟩:=h.2 h0
 obtain ⟨u,hu⟩ : ∃ u,(s.map bv)[0]? = some u:=⟨_,List.getElem?_eq_getElem (by simp;omega)⟩
 have hz:w.cell? (Addr.add ⟨b,off,sp⟩ 0)=some u:=hc 0 u hu
 obtain rfl:sp=none:=World.cell?_spot hz
 refine ⟨b,off,rfl,fun k x hx=>?_⟩
 have:=hc k (bv x) (by rw [List.getElem?_map,hx];rfl)
 rw [add_free] at this
 exact this
set_option maxRecDepth 100000 in
set_option maxHeartbeats 4000000 in
theorem slEqualBytes_any (va vb:Value) (a b:List UInt8) (w:World) (ha:BsAt w va a) (hb:BsAt w vb b):Calls Tryz.prog 40 #[va,vb] w fun e w'=>e = .returned (.bool (decide (a=b)))∧Bel w w':=by
 obtain ⟨R,hR⟩ : ∃ R,R=decide (a=b):=⟨_,rfl⟩
 rw [← hR]
 have HR:=Lib.hid hR
 clear hR
 obtain ⟨Aa,ca,rfl,hca,hma,hra⟩:=ha
 obtain ⟨Ab,cb,rfl,hcb,hmb,hrb⟩:=hb
 have haI:(a.length:Int)≤9223372036854775807:=by unfold maxLen at hma;omega
 have hbI:(b.length:Int)≤9223372036854775807:=by unfold maxLen at hmb;omega
 have HRA:=Lib.hid hra
 have HRB:=Lib.hid hrb
 clear hra hrb hma hmb hca hcb
 by_cases hab:a.length=b.length
 ·have habI:((a.length:Int) != b.length)=false:=by rw [bne_eq_false_iff_eq];omega
  have HAB:=Lib.hid hab
  clear hab
  go_enter Tryz.func40,Tryz.ntmps40
  go_wp2
  go_loopw [13] (fun i wr=>∃ k:Nat,k≤a.length∧i = .int .i64 k∧Hid (Bel w wr)∧Hid (a.take k=b.take k)) (fun i _=>a.length - (intOf i).toNat)
  case atStart=>exact ⟨0,Nat.zero_le _,rfl,Bel.refl w,by show _=_;simp⟩
  case round =>
   obtain ⟨k,hk,rfl,HB,HT⟩:=hrel
   by_cases hlt:k<a.length
   ·obtain ⟨x,hx⟩ : ∃ x,a[k]? = some x:=⟨_,List.getElem?_eq_getElem hlt⟩
    obtain ⟨y,hy⟩ : ∃ y,b[k]? = some y:=⟨_,List.getElem?_eq_getElem (by have:=HAB.out;omega)⟩
    obtain ⟨ba,oa,rfl,hai⟩:=bs_at HRA.out (by omega)
    obtain ⟨bb,ob,rfl,hbi⟩:=bs_at HRB.out (by have:=HAB.out;omega)
    have p0:=HB.out.drew.c (hai k x hx)
    have p1:=HB.out.drew.c (hbi k y hy)
    have hkI:(k:Int)<a.length:=by omega
    have hkJ:(k:Int)<b.length:=by have:=HAB.out;omega
    have HNX:Hid (x=y→a.take (k+1)=b.take (k+1)):=fun e=>by rw [List.take_add_one,List.take_add_one,hx,hy,HT.out,e]
    have HNO:Hid (¬ x=y→R=false):=fun e=>by rw [HR.out];exact decide_eq_false (fun h=>e (by rw [h,hy] at hx;exact (Option.some.inj hx).symm))
    have HLT:=Lib.hid hlt
    clear hx hy hai hbi hlt
    by_cases hxy:x=y
    ·have ht:=Lib.hid (HNX.out hxy)
     subst hxy
     have hxb:((x.toNat:Int) != x.toNat)=false:=by simp
     go_wp2
     refine wp_region_noPanic ?_
     refine wp_region_held_drew (S:=(fun V:World=>V.cell? ⟨ba,oa+k,none⟩=some (.int .u8 x.toNat)∧V.cell? ⟨bb,ob+k,none⟩=some (.int .u8 x.toNat))) (by kernel_rfl) ?_ (fun hHr1_0=>?_)
     ·(try dsimp only);exact ⟨p0,p1⟩
     refine tk 0 ?_
     refine tk 1 ?_
     refine tk 2 ?_
     refine tk 3 ?_
     refine tk 4 ?_
     refine tk 5 ?_
     refine tk 6 ?_
     refine tk 7 ?_
     refine tk 8 ?_
     refine wpAnyH_done (by kernel_rfl) ?_ _
     refine NoPanic.normal ?_
     go_wp2
     go_roundw
     case rel=>exact ⟨k+1,HLT.out,by go_num,HB.out.drew,ht.out⟩
     case measure=>have:=HLT.out;simp [intOf];omega
    ·have hf:=HNO.out hxy
     have hxb:((x.toNat:Int) != y.toNat)=true:=by rw [bne_iff_ne];intro e;exact hxy (UInt8.toNat_inj.1 (by omega))
     have hxc:(x.toNat != y.toNat)=true:=by rw [bne_iff_ne];intro e;exact hxy (UInt8.toNat_inj.1 e)
     go_wp2
     refine wp_region_noPanic ?_
     refine wp_region_held_drew (S:=(fun V:World=>V.cell? ⟨ba,oa+k,none⟩=some (.int .u8 x.toNat)∧V.cell? ⟨bb,ob+k,none⟩=some (.int .u8 y.toNat))) (by kernel_rfl) ?_ (fun hHr2_0=>?_)
     ·(try dsimp only);exact ⟨p0,p1⟩
     refine tk 0 ?_
     refine tk 1 ?_
     refine tk 2 ?_
     refine tk 3 ?_
     refine tk 4 ?_
     refine tk 5 ?_
     refine tk 6 ?_
     refine tk 7 ?_
     refine tk 8 ?_
     refine wpAnyH_done (by kernel_rfl) ?_ _
     refine NoPanic.normal ?_
     go_wp2
     go_ret
     exact ⟨by first | rfl | (rw [hf];rfl),HB.out.drew⟩
   ·obtain rfl:k=a.length:=by omega
    have ht:R=true:=by
     rw [HR.out]
     have:=HT.out
     rw [List.take_length,HAB.out,List.take_length] at this
     exact decide_eq_true this
    clear HT hlt hk
    go_wp2
    go_ret
    exact ⟨by first | rfl | (rw [ht];rfl),HB.out⟩
 ·have hf:R=false:=by rw [HR.out];exact decide_eq_false (fun e=>hab (by rw [e]))
  have habI:((a.length:Int) != b.length)=true:=by rw [bne_iff_ne];omega
  go_enter Tryz.func40,Tryz.ntmps40
  go_wp2
  go_ret
  exact ⟨by first | rfl | (rw [hf];rfl),by (repeat (first | exact Below.refl _ _ | assumption | exact Bel.refl _ | refine Bel.alloc ?_ _ | refine Bel.drew ?_ | refine Bel.drewN ?_ _ | refine Bel.then_ ?_ (by assumption) | refine Bel.setCell ?_ (by first | (simp;done) | (simp;omega)) _))⟩
def pNum (b:Nat) (s:List UInt8):Option (Nat×List UInt8):=match rdNum s with
 | some (n,m)=>if n<b then some (n,s.drop m) else none
 | none=>none
def pInt (b:Nat) (s:List UInt8):Option (Int×List UInt8):=match pNum b s with
 | some (n,r)=>some ((n:Int),r)
 | none=>none
def rep {α : Type} (p:List UInt8→Option (α × List UInt8)):Nat→List UInt8→Option (List α × List UInt8)
 | 0,s=>some ([],s)
 | n+1,s=>match p s with
   | none=>none
   | some (x,r)=>match rep p n r with
     | none=>none
     | some (l,r2)=>some (x :: l,r2)
theorem rep_snoc {α : Type} (p:List UInt8→Option (α × List UInt8)) : ∀ (n:Nat) (s:List UInt8),rep p (n+1) s=match rep p n s with
  | none=>none
  | some (l,r)=>match p r with
    | none=>none
    | some (x,r2)=>some (l ++ [x],r2)
 | 0,s=>by
   show (match p s with | none=>none | some (x,r)=>match some ([],r) with | none=>none | some (l,r2)=>some (x :: l,r2))=_
   cases h:p s with
   | none=>simp [rep,h]
   | some q=>simp [rep,h]
 | n+1,s=>by
   rw [rep]
   cases h:p s with
   | none=>simp [rep,h]
   | some q =>
     obtain ⟨x,r⟩:=q
     dsimp only
     rw [rep_snoc p n r]
     conv=>rhs;rw [rep,h]
     dsimp only
     cases h2:rep p n r with
     | none=>rfl
     | some q2 =>
       obtain ⟨l,r2⟩:=q2
       dsimp only
       cases h3:p r2 with
       | none=>rfl
       | some q3=>rfl
theorem rep_bad {α : Type} {p:List UInt8→Option (α × List UInt8)} {k:Nat} {s:List UInt8} (h:rep p k s=none) : ∀ {n:Nat},k≤n→rep p n s=none:=fun {n} hn=>by
 induction n with
 | zero =>
   obtain rfl:k=0:=by omega
   exact h
 | succ n ih =>
   by_cases e:k=n+1
   ·rw [← e];exact h
   ·rw [rep_snoc,ih (by omega)]
theorem rep_no {α : Type} {p:List UInt8→Option (α × List UInt8)} {k:Nat} {s r:List UInt8} {L:List α} (h:rep p k s=some (L,r)) (hp:p r=none):rep p (k+1) s=none:=by
 rw [rep_snoc,h]
 dsimp only
 rw [hp]
theorem rep_yes {α : Type} {p:List UInt8→Option (α × List UInt8)} {k:Nat} {s r r2:List UInt8} {L:List α} {x : α} (h:rep p k s=some (L,r)) (hp:p r=some (x,r2)):rep p (k+1) s=some (L ++ [x],r2):=by
 rw [rep_snoc,h]
 dsimp only
 rw [hp]
theorem pNum_len {b:Nat} {s:List UInt8} {n:Nat} {r:List UInt8} (h:pNum b s=some (n,r)):r.length≤s.length∧n<b:=by
 unfold pNum at h
 cases hr:rdNum s with
 | none=>rw [hr] at h;cases h
 | some q =>
   obtain ⟨k,m⟩:=q
   rw [hr] at h
   dsimp only at h
   by_cases hk:k<b
   ·rw [if_pos hk] at h
    cases h
    exact ⟨by rw [List.length_drop];omega,hk⟩
   ·rw [if_neg hk] at h;cases h
theorem rep_len {α : Type} {p:List UInt8→Option (α × List UInt8)} (hp : ∀ s x r,p s=some (x,r)→r.length≤s.length) : ∀ {n:Nat} {s:List UInt8} {l:List α} {r:List UInt8},rep p n s=some (l,r)→r.length≤s.length∧l.length=n
 | 0,s,l,r,h=>by
   have h:=Option.some.inj h
   injection h with e1 e2
   subst e1 e2
   exact ⟨Nat.le_refl _,rfl⟩
 | n+1,s,l,r,h=>by
   rw [rep] at h
   cases h1:p s with
   | none=>rw [h1] at h;cases h
   | some q =>
     obtain ⟨x,r1⟩:=q
     rw [h1] at h
     dsimp only at h
     cases h2:rep p n r1 with
     | none=>rw [h2] at h;cases h
     | some q2 =>
       obtain ⟨l2,r2⟩:=q2
       rw [h2] at h
       cases h
       have h3:=rep_len hp h2
       have h4:=hp _ _ _ h1
       exact ⟨by omega,by rw [List.length_cons,h3.2]⟩
theorem pInt_len {b:Nat} {s:List UInt8} {x:Int} {r:List UInt8} (h:pInt b s=some (x,r)):r.length≤s.length∧0≤x∧x<b:=by
 unfold pInt at h
 cases h1:pNum b s with
 | none=>rw [h1] at h;cases h
 | some q =>
   obtain ⟨n,r1⟩:=q
   rw [h1] at h
   cases h
   have:=pNum_len h1
   omega
def pList (s:List UInt8):Option (List Int×List UInt8):=match pNum 9 s with
 | none=>none
 | some (n,r)=>rep (pInt 8) n r
theorem pList_len {s:List UInt8} {l:List Int} {r:List UInt8} (h:pList s=some (l,r)):r.length≤s.length∧l.length≤8:=by
 unfold pList at h
 cases h1:pNum 9 s with
 | none=>rw [h1] at h;cases h
 | some q =>
   obtain ⟨n,r1⟩:=q
   rw [h1] at h
   have h2:=pNum_len h1
   have h3:=rep_len (fun s x r h=>(pInt_len h).1) h
   omega
def GivesNum (o:Option (Nat×List UInt8)) (bt:Nat) (w:World) (e:Ending) (w':World):Prop:=match o with
 | some (n,r)=>e = .returned (.int .i64 n)∧TapeAt w' bt r∧w.grownBy w' (some bt)
 | none=>GaveUp bt w e w'
set_option maxRecDepth 100000 in
theorem cdnumber_any (bt:Nat) (s:List UInt8) (hs:s.length≤1000000) (b:Nat) (hb:b≤1000) (w:World) (h:TapeAt w bt s):Calls Tryz.prog 134 #[.pointer (some ⟨bt,0,none⟩),.int .u64 b] w (GivesNum (pNum b s) bt w):=by
 unfold pNum
 cases hr:rdNum s with
 | none =>
   have HG:=Lib.hid (gotN_no bt s hs hr w h)
   clear hr h hs
   go_enter Tryz.func134,Tryz.ntmps134
   go_wp2_with fail
   refine HG.out.mono ?_
   rintro e w1 ⟨rfl,hg1⟩
   exact ⟨rfl,rfl,hg1⟩
 | some q =>
   obtain ⟨n,m⟩:=q
   have HG:=Lib.hid (gotN_yes bt s hs n m hr w h)
   clear hr h hs
   dsimp only
   by_cases hn:n<b
   ·rw [if_pos hn]
    have hnI:(n:Int)<b:=by omega
    have hcv:IntKind.i64.wrap (n:Int)=(n:Int):=by simp only [IntKind.wrap,IntKind.bits,IntKind.signed];simp;omega
    go_enter Tryz.func134,Tryz.ntmps134
    go_wp2_with fail
    refine HG.out.mono ?_
    rintro e w1 ⟨rfl,ht1,hg1⟩
    go_wp2_with (go_at_call 137;refine (must_yes _).mono ?_;rintro e w' ⟨rfl,rfl⟩)
    go_ret
    exact ⟨rfl,ht1,hg1⟩
   ·rw [if_neg hn]
    have hnb:decide ((n:Int)<b)=false:=by simp;omega
    have hnc:decide (n<b)=false:=by simp;omega
    go_enter Tryz.func134,Tryz.ntmps134
    go_wp2_with fail
    refine HG.out.mono ?_
    rintro e w1 ⟨rfl,ht1,hg1⟩
    go_wp2_with (go_at_call 137;refine (must_no _).mono ?_;rintro e w' ⟨rfl,rfl⟩)
    exact ⟨rfl,rfl,hg1⟩
def GivesList (o:Option (List Int×List UInt8)) (bt:Nat) (w:World) (e:Ending) (w':World):Prop:=match o with
 | some (l,r)=>∃ A c,e = .returned (.slice A l.length c)∧w'.ownsRow w.heap.size 3 1 (.slice A l.length c) l.length (l.map fun x=>.int .i64 x)∧TapeAt w' bt r∧w.grownBy w' (some bt)
 | none=>GaveUp bt w e w'
set_option maxRecDepth 100000 in
set_option maxHeartbeats 2000000 in
theorem cdplaces_any (bt:Nat) (s:List UInt8) (hs:s.length≤1000000) (w:World) (h:TapeAt w bt s):Calls Tryz.prog 136 #[.pointer (some ⟨bt,0,none⟩)] w (GivesList (pList s) bt w):=by
 have hbt:=h.lt
 obtain ⟨R,hR⟩ : ∃ R,R=pList s:=⟨_,rfl⟩
 rw [← hR]
 have HN:=Lib.hid (cdnumber_any bt s hs 9 (by omega) w h)
 unfold pList at hR
 cases h1:pNum 9 s with
 | none =>
   rw [h1] at HN hR
   subst hR
   clear h1 h hs
   go_enter Tryz.func136,Tryz.ntmps136
   go_wp2_with fail
   refine HN.out.mono ?_
   rintro e w1 ⟨rfl,hg1⟩
   exact ⟨rfl,rfl,hg1⟩
 | some q =>
   obtain ⟨n,r0⟩:=q
   rw [h1] at HN hR
   dsimp only at hR
   obtain ⟨hr0,hn9⟩:=pNum_len h1
   have HR:=Lib.hid hR
   have hr0s:r0.length≤1000000:=by omega
   obtain ⟨i0,hi0,hz0,hz1,hz2⟩:=info_parts zinfoI
   have hp1:(0:Nat)<1:=by omega
   have hnI:(n:Int)<9:=by omega
   clear h1 h hs hR hr0
   go_enter Tryz.func136,Tryz.ntmps136
   go_wp2_with fail
   refine HN.out.mono ?_
   rintro e w1 ⟨rfl,ht1,hg1⟩
   have HT1:=Lib.hid ht1
   have HG1:=Lib.hid hg1
   clear ht1 hg1 HN
   go_wp2
   go_loopw [2,5] (fun v i wr=>∃ (k:Nat) (L:List Int) (r:List UInt8),k≤n∧i = .int .i64 k∧(∃ A c,v = .slice A k c)∧r.length≤1000000∧Hid (rep (pInt 8) k r0=some (L,r)∧L.length=k)∧Hid (TapeAt wr bt r∧w.grownBy wr (some bt)∧wr.ownsRow w.heap.size 3 1 v k (L.map fun x=>.int .i64 x))) (fun v i _=>n - (intOf i).toNat)
   case atStart=>exact ⟨0,[],r0,Nat.zero_le _,rfl,⟨none,0,rfl⟩,hr0s,⟨rfl,rfl⟩,HT1.out,HG1.out,World.ownsRow_nil _ _ _ _⟩
   case round =>
    obtain ⟨k,L,r,hk,rfl,⟨A,c,rfl⟩,hrs,HL,HO⟩:=hrel
    by_cases hlt:k<n
    ·have hkI:(k:Int)<n:=by omega
     have HNK:=Lib.hid (cdnumber_any bt r hrs 8 (by omega) wr HO.out.1)
     cases hq:pNum 8 r with
     | none =>
       rw [hq] at HNK
       obtain rfl:R=none:=by rw [HR.out];exact rep_bad (rep_no HL.out.1 (by unfold pInt;rw [hq])) (show k+1≤n by omega)
       have HG:=Lib.hid HO.out.2.1
       clear hq HL HO
       go_wp2_with fail
       refine HNK.out.mono ?_
       rintro e w2 ⟨rfl,hg2⟩
       exact ⟨rfl,rfl,grown_trans HG.out hg2⟩
     | some q =>
       obtain ⟨x,r2⟩:=q
       rw [hq] at HNK
       have HTK:=Lib.hid (rep_yes HL.out.1 (show pInt 8 r=some ((x:Int),r2) by unfold pInt;rw [hq]))
       obtain ⟨hr2,-⟩:=pNum_len hq
       have hr2s:r2.length≤1000000:=by omega
       clear hq hr2
       go_wp2_with fail
       refine HNK.out.mono ?_
       rintro e w2 ⟨rfl,ht2,hg2⟩
       have hal:Bel w2 (w2.alloc (.cells #[.int .i64 (x:Int)] 3)):=(Bel.refl w2).alloc _
       have HG3:=Lib.hid (grown_trans (grown_trans HO.out.2.1 hg2) (hal.grown (some bt)))
       have HT3:=Lib.hid (ht2.bel hal)
       have HOW:=Lib.hid (ownsRow_bel (ownsRow_grown HO.out.2.2 hg2 hbt) hal)
       have HX:Hid (Reads (w2.alloc (.cells #[.int .i64 (x:Int)] 3)) (w2.alloc (.cells #[.int .i64 (x:Int)] 3)).heap.size 1 (some ⟨w2.heap.size,0,none⟩) 1 [.int .i64 (x:Int)]):=by
        show Reads _ _ _ _ _ _
        refine reads_one ?_
        go_simp
       have hone1 : ∀ u ∈ [(.int .i64 (x:Int):Value)],u.oneCell'=true:=by simp [Value.oneCell']
       have h63:k+1≤maxLen:=by unfold maxLen;omega
       have hby:(k+1) * 8≤140737488355328:=by omega
       have HS1:Hid (w.heap.size≤(w2.alloc (.cells #[.int .i64 (x:Int)] 3)).heap.size):=HG3.out.size
       have HMP:Hid ((L ++ [(x:Int)]).map (fun x=>Value.int .i64 x)=(L.map fun x=>.int .i64 x) ++ [.int .i64 (x:Int)]):=List.map_append
       have HBT:=Lib.hid hbt
       clear ht2 hg2 hal HO HNK
       go_wp2_with (at_builtin;refine wpList_append_any _ rfl (.tmp 7) (.tmp 10) _ rfl w.heap.size 3 i0 _ 1 8 Tryz.underlying24 hi0 hz0 hz1 hz2 rfl hp1 (.slice A k c) k _ (by rfl) HOW.out _ (some ⟨w2.heap.size,0,none⟩) 1 1 _ (by rfl) HX.out hone1 h63 hby HS1.out ?_;intro v9 w9 hown9 hg9 hat9;obtain ⟨A9,c9,rfl⟩:=row_any hown9;have hlt9:=fun j e=>(HOW.out.lt j e).1;have HN9:Hid (TapeAt w9 bt r2∧w.grownBy w9 (some bt)∧w9.ownsRow w.heap.size 3 1 (.slice A9 (k+1) c9) (k+1) ((L ++ [(x:Int)]).map fun x=>.int .i64 x)):=⟨HT3.out.own hg9 (fun j e=>Nat.lt_of_lt_of_le HBT.out (hlt9 j e)),grown_own HG3.out hg9 hlt9,by rw [HMP.out];exact hown9⟩;clear hown9 hg9 hat9 hlt9)
       go_roundw
       case rel=>exact ⟨k+1,L ++ [(x:Int)],r2,by omega,by go_num,⟨A9,c9,rfl⟩,hr2s,⟨HTK.out,by rw [List.length_append,HL.out.2];rfl⟩,HN9.out⟩
       case measure=>simp [intOf];omega
    ·obtain rfl:k=n:=by omega
     obtain rfl:R=some (L,r):=by rw [HR.out];exact HL.out.1
     have HF:Hid (wr.ownsRow w.heap.size 3 1 (.slice A L.length c) L.length (L.map fun x=>.int .i64 x)):=by
      rw [HL.out.2];exact HO.out.2.2
     have HLN:=Lib.hid HL.out.2
     clear hlt hk
     go_wp2
     go_ret
     exact ⟨A,c,by rw [HLN.out];rfl,HF.out,HO.out.1,HO.out.2.1⟩
end
section
open Go.RowKit Go.Shelf Go.Lib
def pCol (s:List UInt8):Option (Col×List UInt8):=match rdText s with
 | none=>none
 | some (x,m)=>match pNum 5 (s.drop m) with
   | none=>none
   | some (t,r1)=>match pNum 201 r1 with
     | none=>none
     | some (z,r2)=>match pNum 2 r2 with
       | none=>none
       | some (b,r3)=>some (⟨⟨x.toArray⟩,(t:Int),(z:Int),decide (b=1)⟩,r3)
def pSch (s:List UInt8):Option ((List Col×List Int×List (List Int))×List UInt8):=match pNum 9 s with
 | none=>none
 | some (n,r)=>match rep pCol n r with
   | none=>none
   | some (cols,r1)=>match pList r1 with
     | none=>none
     | some (key,r2)=>match pNum 4 r2 with
       | none=>none
       | some (u,r3)=>match rep pList u r3 with
         | none=>none
         | some (uq,r4)=>some ((cols,key,uq),r4)
def decS (s:List UInt8):Option (List Col×List Int×List (List Int)):=match pSch s with
 | some ((c,k,u),_)=>if rightS c k u=true∧encSch c k u=s then some (c,k,u) else none
 | none=>none
theorem pNum_enc {b n:Nat} (hn:n<b) (hb:b≤1001) (r:List UInt8):pNum b (numB n ++ r)=some (n,r):=by
 unfold pNum
 rw [rdNum_enc n (by omega)]
 dsimp only
 rw [if_pos hn,← numB_length,List.drop_left]
theorem pInt_enc {b:Nat} {x:Int} (h0 : 0≤x) (hx:x<b) (hb:b≤1001) (r:List UInt8):pInt b (numB x.toNat ++ r)=some (x,r):=by
 unfold pInt
 rw [pNum_enc (by omega) hb]
 dsimp only
 rw [Int.toNat_of_nonneg h0]
theorem pCol_enc {c:Col} (h : 1≤c.t∧c.t≤4∧0≤c.z∧c.z≤200∧c.name.size≤24) (r:List UInt8):pCol (encCol c ++ r)=some (c,r):=by
 obtain ⟨h1,h2,h3,h4,h5⟩:=h
 have hl:c.name.data.toList.length=c.name.size:=rfl
 unfold pCol encCol
 rw [List.append_assoc,rdText_enc _ (by rw [hl];omega)]
 dsimp only
 rw [List.drop_left,List.append_assoc,pNum_enc (by omega) (by omega)]
 dsimp only
 rw [List.append_assoc,pNum_enc (by omega) (by omega)]
 dsimp only
 rw [pNum_enc (by unfold bNat;split <;> omega) (by omega)]
 dsimp only
 rw [Int.toNat_of_nonneg (by omega),Int.toNat_of_nonneg h3]
 obtain ⟨nm,t,z,b⟩:=c
 cases b <;> simp [bNat]
theorem rep_enc {α : Type} {p:List UInt8→Option (α × List UInt8)} {enc : α → List UInt8} {encs:List α → List UInt8} (he0:encs []=[]) (hec : ∀ x l,encs (x :: l)=enc x ++ encs l) : ∀ {l:List α} (h : ∀ x ∈ l,∀ r,p (enc x ++ r)=some (x,r)) (r:List UInt8),rep p l.length (encs l ++ r)=some (l,r)
 | [],_,r=>by rw [he0];rfl
 | x :: l,h,r=>by
   rw [hec,List.length_cons,rep,List.append_assoc,h x List.mem_cons_self]
   dsimp only
   rw [rep_enc he0 hec (fun y hy=>h y (List.mem_cons_of_mem _ hy)) r]
theorem pList_enc {l:List Int} (h4:l.length≤4) (h : ∀ x ∈ l,0≤x∧x<8) (r:List UInt8):pList (encList l ++ r)=some (l,r):=by
 unfold pList encList
 rw [List.append_assoc,pNum_enc (by omega) (by omega)]
 dsimp only
 exact rep_enc (enc:=fun x:Int=>numB x.toNat) rfl (fun _ _=>rfl) (fun x hx r=>pInt_enc (b:=8) (h x hx).1 (by have:=(h x hx).2;omega) (by omega) r) r
theorem pSch_enc {cols:List Col} {key:List Int} {uq:List (List Int)} (h:rightS cols key uq=true) (r:List UInt8):pSch (encSch cols key uq ++ r)=some ((cols,key,uq),r):=by
 obtain ⟨hc,hl1,hl8,⟨hk4,hk⟩,hu3,hu⟩:=right_small h
 unfold pSch encSch
 rw [List.append_assoc,pNum_enc (by omega) (by omega)]
 dsimp only
 rw [List.append_assoc,rep_enc (enc:=encCol) (encs:=encCols) rfl (fun _ _=>rfl) (fun x hx r=>pCol_enc (hc x hx) r)]
 dsimp only
 rw [List.append_assoc,pList_enc hk4 hk]
 dsimp only
 rw [List.append_assoc,pNum_enc (by omega) (by omega)]
 dsimp only
 rw [rep_enc (enc:=encList) (encs:=encLists) rfl (fun _ _=>rfl) (fun x hx r=>pList_enc (hu x hx).1 (hu x hx).2 r)]
theorem decS_enc {cols:List Col} {key:List Int} {uq:List (List Int)} (h:rightS cols key uq=true):decS (encSch cols key uq)=some (cols,key,uq):=by
 unfold decS
 have:=pSch_enc h []
 rw [List.append_nil] at this
 rw [this]
 dsimp only
 rw [if_pos ⟨h,rfl⟩]
end
end Go.Proofs.YtnajjhgbombboaaGreatDoor
