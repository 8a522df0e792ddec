/-
  Texts behind the statement: part 14.
-/
import Derived.Test.YtnajjhgbombboaaGreatDoorP13
import Derived.Defers
import Derived.Recover
set_option linter.unusedVariables false
set_option linter.unusedSimpArgs false
namespace Go.Proofs.YtnajjhgbombboaaGreatDoor
section
open Go.RowKit Go.Shelf Go.Lib
attribute [local go_sem] Oper.semAt_some
theorem BelS.setRow {S:Nat→Prop} {a b:World} (h:BelS S a b) {g:Nat} (hg:a.heap.size≤g) (cs:Array Value):BelS S a (b.setRow g cs) :=
 ⟨h.os,h.tape,h.output,by rw [setRow_size];exact h.size,fun k hk hl=>(setRow_other _ _ _ _ (by omega)).trans (h.block k hk hl)⟩
theorem setRow_alloc_new (V:World) (a b:Array Value) (t:TypeId):(V.alloc (.cells a t)).setRow V.heap.size b=V.alloc (.cells b t):=by
 unfold World.setRow World.alloc
 congr 1
 apply Array.ext_getElem?
 intro k
 simp only [Array.getElem?_modify,Array.getElem?_push]
 by_cases hk:k=V.heap.size
 ·subst hk
  simp
 ·simp [hk,Ne.symm hk]
theorem kb_store (ys:List UInt8) (hy:ys.length=9) (V:World):(storeCells ⟨V.heap.size,0,none⟩ (ys.map bv)).run Tryz.prog (V.alloc (.cells #[.int .u8 0,.int .u8 0,.int .u8 0,.int .u8 0,.int .u8 0,.int .u8 0,.int .u8 0,.int .u8 0,.int .u8 0] 238)) = .ok () (V.alloc (.cells (ys.map bv).toArray 238)):=by
 have h:=run_storeCells_from (P:=Tryz.prog) V.heap.size 238 (ys.map bv) 0 z9 (V.alloc (.cells z9 238)) (Blk.new _ _ _) (by rw [List.length_map,hy];rfl) (bv_one ys)
 rw [setRow_alloc_new] at h
 unfold z9 at h
 simpa using h
theorem kbinfo:(Tryz.prog.info? 238).map (·.size)=some 9:=by kernel_rfl
structure KG (bt gx:Nat) (w:World) (s:List UInt8) (R:Option (List UInt8×Nat)) (acc:List UInt8) (off f:Nat) (v:Value) (V:World):Prop where
 tape:Blk V bt 215 #[strV (s.drop off)]
 val:Blk V gx 64 (vcells (kv 4))
 bel:BelS (fun j=>j ≠ bt∧j ≠ gx) w V
 own:V.ownsRow w.heap.size 5 1 v acc.length (acc.map bv)
 short:acc.length≤200
 inb:off≤s.length
 fuel:s.length≤off+f
 res:(rdG f acc (s.drop off)).map (fun x=>(x.1,x.2+off))=R
def kleft (bt:Nat) (V:World):Nat:=match V.cell? ⟨bt,0,none⟩ with
 | some (.string b)=>b.size
 | _=>0
theorem KG.left {bt gx:Nat} {w V:World} {s:List UInt8} {R:Option (List UInt8×Nat)} {acc:List UInt8} {off f:Nat} {v:Value} (h:KG bt gx w s R acc off f v V):kleft bt V=s.length - off:=by
 have h1:=h.tape.cell 0
 simp only [List.getElem?_toArray,List.getElem?_cons_zero] at h1
 unfold kleft
 rw [h1]
 show (s.drop off).toArray.size=_
 simp
def KOut (bt gx:Nat) (s:List UInt8) (R:Option (List UInt8×Nat)) (w:World) (e:Ending) (w':World):Prop :=
 match R with
 | none=>KGave bt gx w e w'
 | some (y,m)=>KRead bt gx ⟨4,0,0,⟨y.toArray⟩⟩ (s.drop m) w e w'
structure KB (bt gx:Nat) (w:World) (s:List UInt8) (acc:List UInt8) (off:Nat) (y9:List UInt8) (v:Value) (g:Nat) (V:World):Prop where
 tape:Blk V bt 215 #[strV (s.drop (off+9))]
 val:Blk V gx 64 (vcells (kv 4))
 bel:BelS (fun j=>j ≠ bt∧j ≠ gx) w V
 own:V.ownsRow w.heap.size 5 1 v acc.length (acc.map bv)
 arr:Blk V g 238 (y9.map bv).toArray
 high:w.heap.size≤g
theorem KG.taken {bt gx:Nat} {w V:World} {s:List UInt8} {R:Option (List UInt8×Nat)} {acc:List UInt8} {off f:Nat} {v:Value} (h:KG bt gx w s R acc off f v V) (hne:bt ≠ gx) (y9:List UInt8) (hb:bt<w.heap.size) (hx:gx<w.heap.size) 
 {w1 V2:World} (hW1:V.setCell ⟨bt,0,none⟩ (strV (s.drop (off+9)))=w1) (hV2:Bel w1 V2):KB bt gx w s acc off y9 v V2.heap.size (V2.alloc (.cells (y9.map bv).toArray 238)):=by
 subst hW1
 have k1:Blk (V.setCell ⟨bt,0,none⟩ (strV (s.drop (off+9)))) bt 215 #[strV (s.drop (off+9))]:=h.tape.set_ 0 _
 have k2:=h.val.far (p:=⟨bt,0,none⟩) (Ne.symm hne) (strV (s.drop (off+9)))
 have k3:=h.bel.setCell (p:=⟨bt,0,none⟩) (by show ¬ (bt ≠ bt∧bt ≠ gx);omega) (strV (s.drop (off+9)))
 have k4:=row_setArr (i:=0) (u:=strV (s.drop (off+9))) h.own h.tape (by decide)
 have hs:=h.bel.size
 have hs2:V.heap.size≤V2.heap.size:=by have:=hV2.size;simpa using this
 have hal:=hV2.alloc (.cells (y9.map bv).toArray 238)
 have hB:=Blk.new V2 238 (y9.map bv).toArray
 exact ⟨k1.below hal k1.lt,k2.below hal k2.lt,k3.trans (BelS.of_bel hal),ownsRow_bel k4 hal,hB,by omega⟩
theorem KB.grown {bt gx:Nat} {w V V':World} {s acc acc':List UInt8} {off:Nat} {y9:List UInt8} {v v':Value} {g:Nat} (h:KB bt gx w s acc off y9 v g V) (hb:bt<w.heap.size) (hx:gx<w.heap.size) (hg:V.grownBy V' v.ownBlock) (ho:V'.ownsRow w.heap.size 5 1 v' acc'.length (acc'.map bv)):KB bt gx w s acc' off y9 v' g V':=by
 have hrow : ∀ j,v.ownBlock=some j→w.heap.size≤j:=fun j e=>(h.own.lt j e).1
 refine ⟨h.tape.grown hg (fun e=>by have:=hrow _ e.symm;omega),h.val.grown hg (fun e=>by have:=hrow _ e.symm;omega),?_,ho,h.arr.grown hg (fun e=>own_blk_ne h.own h.arr (by decide) e.symm),h.high⟩
 exact ⟨hg.os.trans h.bel.os,hg.tape.trans h.bel.tape,hg.output.trans h.bel.output,Nat.le_trans h.bel.size hg.size,fun k hk hl=>(hg.block k (Nat.lt_of_lt_of_le hl h.bel.size) (fun e=>by have:=hrow _ e.symm;omega)).trans (h.bel.block k hk hl)⟩
theorem KB.bel_ {bt gx:Nat} {w V V':World} {s acc:List UInt8} {off:Nat} {y9:List UInt8} {v:Value} {g:Nat} (h:KB bt gx w s acc off y9 v g V) (hb:Bel V V'):KB bt gx w s acc off y9 v g V' :=
 ⟨h.tape.below hb h.tape.lt,h.val.below hb h.val.lt,h.bel.trans (BelS.of_bel hb),ownsRow_bel h.own hb,h.arr.below hb h.arr.lt,h.high⟩
theorem KB.reads {bt gx:Nat} {w V:World} {s acc:List UInt8} {off:Nat} {y9:List UInt8} {v:Value} {g:Nat} (h:KB bt gx w s acc off y9 v g V) {m:Nat} (hm:m≤y9.length):Reads V V.heap.size 1 (some ⟨g,0,none⟩) m ((y9.take m).map bv):=by
 refine ⟨by simp;omega,fun hn=>⟨_,rfl,h.arr.lt,fun j u hu=>?_⟩⟩
 rw [add_free,Nat.zero_add,h.arr.cell j,List.getElem?_toArray]
 rw [List.getElem?_map,List.getElem?_take] at hu
 rw [List.getElem?_map]
 split at hu
 ·exact hu
 ·cases hu
theorem KB.more {bt gx:Nat} {w V V':World} {s acc:List UInt8} {off:Nat} {y9:List UInt8} {v v':Value} {g m:Nat} (h:KB bt gx w s acc off y9 v g V) (hm:m≤y9.length) (hb:bt<w.heap.size) (hx:gx<w.heap.size) (hg:V.grownBy V' v.ownBlock)
 (ho:V'.ownsRow w.heap.size 5 1 v' (acc.length+m) (acc.map bv ++ (y9.take m).map bv)):KB bt gx w s (acc ++ y9.take m) off y9 v' g V':=by
 refine h.grown hb hx hg ?_
 rw [List.map_append,List.length_append,List.length_take,Nat.min_eq_left hm]
 exact ho
theorem KB.next {bt gx:Nat} {w V:World} {s acc:List UInt8} {off f:Nat} {y9:List UInt8} {v:Value} {g:Nat} {R:Option (List UInt8×Nat)} (h:KB bt gx w s acc off y9 v g V) (ha:acc.length≤200) (hi:off+9≤s.length) (hf:s.length≤off+9+f)
 (hr:(rdG f acc (s.drop (off+9))).map (fun x=>(x.1,x.2+(off+9)))=R):KG bt gx w s R acc (off+9) f v V:=⟨h.tape,h.val,h.bel,h.own,ha,hi,hf,hr⟩
theorem copy9c (Wb:World) (g off m cp:Nat) (ys:List UInt8) (hm:ys.length=m) (h8:m≤8) (hc : ∀ (j:Nat) (c:UInt8),ys[j]? = some c→Wb.cell? ⟨g,off+j,none⟩=some (bv c)) :
 ∃ w1,(Builtin.copy_ #[34,34] 3 #[.slice (some ⟨Wb.heap.size,0,none⟩) 9 9,.slice (some ⟨g,off,none⟩) m cp]).run Tryz.prog (Wb.alloc (.cells z9 238)) = .ok (.int .i64 m) w1 ∧
  Bel Wb w1∧w1.heap.size=Wb.heap.size+1∧Blk w1 Wb.heap.size 238 (ys.map bv ++ zrow (9 - m)).toArray:=by
 subst hm
 have hB:=Blk.new Wb 238 z9
 have hr:=run_copy_row (P:=Tryz.prog) (Wb.alloc (.cells z9 238)) 34 34 3 5 Wb.heap.size 0 9 9 ⟨g,off,none⟩ ys.length cp z9 238 (ys.map bv) Tryz.underlying34 (by kernel_rfl) hB
  (by rw [List.length_map];exact (Nat.min_eq_left (by omega)).symm) (fun j v hj=>by
    rw [List.getElem?_map] at hj
    cases hy:ys[j]? with
    | none=>rw [hy] at hj;cases hj
    | some c =>
      rw [hy] at hj
      cases hj
      rw [add_free]
      exact ((Bel.refl Wb).alloc _).c (hc j c hy)) (by rw [List.length_map];show 0+ys.length≤9;omega) (bv_one ys)
 rw [List.length_map] at hr
 refine ⟨_,hr,⟨rfl,rfl,rfl,by simp,fun i hi=>(setRow_other _ _ _ _ (by omega)).trans (Below.heap_alloc _ _ _ hi)⟩,by simp,?_⟩
 have h2:=setRow_heap (Wb.alloc (.cells z9 238)) Wb.heap.size z9 (z9.toList.take 0 ++ ys.map bv ++ z9.toList.drop (0+ys.length)).toArray 238 (0,0) hB
 have e:z9.toList.drop (0+ys.length)=zrow (9 - ys.length):=by
  have:z9.toList=zrow 9:=rfl
  rw [this,Nat.zero_add]
  unfold zrow
  rw [List.drop_replicate]
 rw [e] at h2
 rw [e]
 simpa [Blk] using h2
def restOf (y9:List UInt8) (n:Nat):List UInt8:=y9.take n ++ zeros (8 - n) ++ [UInt8.ofNat n]
theorem KB.rest {bt gx:Nat} {w V:World} {s acc:List UInt8} {off:Nat} {y9:List UInt8} {v:Value} {g n:Nat} (h:KB bt gx w s acc off y9 v g V) (hy:y9.length=9) (hn:n≤8) (hb:bt<w.heap.size) (hx:gx<w.heap.size) :
 ∃ W7,(Builtin.copy_ #[34,34] 3 #[.slice (some ⟨V.heap.size,0,none⟩) 9 9,.slice (some ⟨g,0,none⟩) n 9]).run Tryz.prog (V.alloc (.cells #[.int .u8 0,.int .u8 0,.int .u8 0,.int .u8 0,.int .u8 0,.int .u8 0,.int .u8 0,.int .u8 0,.int .u8 0] 238)).drew = .ok (.int .i64 n) W7 ∧
  W7.cell? ⟨g,8,none⟩=V.cell? ⟨g,8,none⟩∧W7.cell? ⟨V.heap.size,8,none⟩=some (.int .u8 0)∧W7.frozen? ⟨V.heap.size,8,none⟩=false∧V.heap.size<W7.heap.size ∧
  KB bt gx w s acc off y9 v g (W7.setCell ⟨V.heap.size,8,none⟩ (.int .u8 n))∧Blk (W7.setCell ⟨V.heap.size,8,none⟩ (.int .u8 n)) V.heap.size 238 ((restOf y9 n).map bv).toArray:=by
 have hyl:(y9.take n).length=n:=by rw [List.length_take];omega
 obtain ⟨W7,hcp,hb7,hs7,hB7⟩:=copy9c V.drew g 0 n 9 (y9.take n) hyl hn (fun j c hj=>by
  rw [Nat.zero_add]
  show V.cell? ⟨g,j,none⟩=_
  rw [h.arr.cell j,List.getElem?_toArray,List.getElem?_map]
  have hlt:j<n:=by have:=(List.getElem?_eq_some_iff.1 hj).1;omega
  rw [List.getElem?_take,if_pos hlt] at hj
  rw [hj]
  rfl)
 have hbV:Bel V W7:=(Bel.refl V).drew.then_ hb7
 have hbs:(V.drew).heap.size=V.heap.size:=rfl
 rw [hbs] at hs7 hB7
 have hglt:=h.arr.lt
 have hVs:=h.bel.size
 have hK7:=h.bel_ hbV
 refine ⟨W7,hcp,?_,?_,hB7.frozen 8,by omega,?_,?_⟩
 ·rw [h.arr.cell 8]
  exact hK7.arr.cell 8
 ·rw [hB7.cell 8,List.getElem?_toArray,List.getElem?_append_right (by rw [List.length_map,hyl];exact hn),List.length_map,hyl]
  unfold zrow
  rw [List.getElem?_replicate,if_pos (by omega)]
 ·exact ⟨hK7.tape.far (by show bt ≠ V.heap.size;omega) _,hK7.val.far (by show gx ≠ V.heap.size;omega) _,⟨hK7.bel.os,hK7.bel.tape,hK7.bel.output,by simp [World.setCell];exact hK7.bel.size,fun k hk hl=>(Below.heap_setCell _ _ _ _ (by show k ≠ V.heap.size;omega)).trans (hK7.bel.block k hk hl)⟩,row_setArr hK7.own hB7 (by decide),hK7.arr.far (by show g ≠ V.heap.size;omega) _,h.high⟩
 ·have:=hB7.set_ 8 (.int .u8 n)
  rw [arr9 _ n hyl hn (UInt8.ofNat n) (.int .u8 n) (by rw [bv_lit _ (by omega)])] at this
  exact this
theorem rest_eq {t y9:List UInt8} {n:Nat} (hy:t.take 9=y9) (h9 : 9≤t.length) (hn:n≤8) (h8:(y9.getD 8 0).toNat=n):restOf y9 n=y9 ↔ (t.drop n).take (8 - n)=zeros (8 - n):=by
 subst hy
 have h8':t[8]? = some (UInt8.ofNat n):=by
  have e:(t.take 9).getD 8 0=t.getD 8 0:=by rw [List.getD_eq_getElem?_getD,List.getD_eq_getElem?_getD,List.getElem?_take,if_pos (by omega)]
  rw [e,List.getD_eq_getElem?_getD,List.getElem?_eq_getElem (by omega)] at h8
  rw [List.getElem?_eq_getElem (by omega)]
  simp only [Option.getD_some] at h8
  rw [← h8]
  simp
 have hsplit:t.take 9=t.take n ++ (t.drop n).take (8 - n) ++ [UInt8.ofNat n]:=by
  have e1:t.take 9=t.take 8 ++ [UInt8.ofNat n]:=by
   obtain ⟨hl,he⟩:=List.getElem?_eq_some_iff.1 h8'
   rw [List.take_succ_eq_append_getElem hl,he]
  have e2:t.take 8=t.take n ++ (t.drop n).take (8 - n):=by
   rw [← List.take_add,Nat.add_sub_cancel' hn]
  rw [e1,e2]
 have htn:(t.take 9).take n=t.take n:=by rw [List.take_take,Nat.min_eq_left (by omega)]
 unfold restOf
 rw [htn]
 constructor
 ·intro h
  rw [hsplit] at h
  have:=List.append_cancel_right h
  exact (List.append_cancel_left this).symm
 ·intro h
  rw [hsplit,h]
theorem bytes_range (s:List UInt8) (W:World):(Lib.bytesWorld W 5 ⟨s.toArray⟩).rangeAt W.heap.size 0 (s.map bv):=fun j v hv=>by
 rw [List.getElem?_map] at hv
 obtain ⟨c,hc,rfl⟩:=Option.map_eq_some_iff.1 hv
 have hl:=(List.getElem?_eq_some_iff.1 hc).1
 have:=Lib.bytesWorld_cell W 5 ⟨s.toArray⟩ j (by show j<s.toArray.size;simpa using hl)
 rw [Nat.zero_add,this]
 have hd:(⟨s.toArray⟩:ByteArray).data.toList.getD j 0=c:=by rw [List.getD_eq_getElem?_getD];show s.toArray.toList[j]?.getD 0=c;rw [List.toList_toArray,hc];rfl
 rw [hd]
 rfl
set_option maxRecDepth 100000 in
set_option maxHeartbeats 4000000 in
theorem kread_bytes (bt gx:Nat) (s:List UInt8) (w:World) (hne:bt ≠ gx) (h:Blk w bt 215 #[strV s]) (hx:Blk w gx 64 (vcells (kv 4))) :
 Calls Tryz.prog 169 #[.pointer (some ⟨bt,0,none⟩),.pointer (some ⟨gx,0,none⟩)] w (KOut bt gx s (rdG s.length [] s) w):=by
 obtain ⟨R,hR⟩ : ∃ R,rdG s.length [] s=R:=⟨_,rfl⟩
 rw [hR]
 have hbl:=h.lt
 have hxl:=hx.lt
 have HI:Hid (KG bt gx w s R [] 0 s.length (.slice none 0 0) w):=⟨by rw [List.drop_zero];exact h,hx,BelS.refl _ _,World.ownsRow_nil _ _ _ _,by simp,Nat.zero_le _,by omega,by rw [List.drop_zero,hR];cases R <;> rfl⟩
 obtain ⟨i0,hi0,hz0,hz1,hz2⟩:=info_parts infoU8
 have hp1:(0:Nat)<1:=by omega
 clear hR h hx
 go_enter Tryz.func169,Tryz.ntmps169
 go_wp2
 go_loopw [4] (fun v wr=>∃ (acc:List UInt8) (off f:Nat) (A:Option Addr) (c:Nat),v = .slice A acc.length c∧Hid (KG bt gx w s R acc off f v wr)) (fun _ wr=>kleft bt wr)
 case atStart=>exact ⟨[],0,s.length,none,0,rfl,HI⟩
 case round =>
  obtain ⟨acc,off,f,A,c,rfl,HK⟩:=hrel
  have HLF:=Lib.hid HK.out.left
  by_cases h9:(s.drop off).length<9
  ·have HT:=Lib.hid (ktake_no bt (s.drop off) 9 9 rfl h9 wr HK.out.tape)
   have hRn:=HK.out.res
   rw [rdG_none h9] at hRn
   subst hRn
   go_wp2_with (go_at_call 161;refine HT.out.mono ?_;rintro e w1 ⟨rfl,rfl⟩)
   exact ⟨rfl,rfl,⟨_,HK.out.val⟩,HK.out.bel⟩
  ·obtain ⟨y9,hy⟩ : ∃ y9,(s.drop off).take 9=y9:=⟨_,rfl⟩
   have hy9:y9.length=9:=by rw [← hy,List.length_take];omega
   have HT:=Lib.hid (ktake_yes bt (s.drop off) 9 9 rfl (by omega) wr HK.out.tape)
   rw [hy,List.drop_drop] at HT
   have co:=fun W=>conv_bytes y9 W
   rw [hy9] at co
   have hap : ∀ (W:World) (A:Option Addr) (c:Nat),(Instr.arrayAt 238 (.slice A 9 c)).run Tryz.prog W = .ok (.pointer A) W:=fun W A c=>run_arrayAt (P:=Tryz.prog) (w:=W) 238 5 9 A 9 c (by kernel_rfl) (Nat.le_refl _)
   obtain ⟨n,hn⟩ : ∃ n,(y9.getD 8 0).toNat=n:=⟨_,rfl⟩
   have hn255:(n:Int)≤255:=by have:=(y9.getD 8 0).toNat_lt;omega
   have HC8:Hid ((y9.map bv).toArray[8]? = some (.int .u8 n)):=by
    have:y9[8]? = some (y9.getD 8 0):=by rw [List.getD_eq_getElem?_getD,List.getElem?_eq_getElem (by omega)];rfl
    refine Lib.hid ?_
    rw [List.getElem?_toArray,List.getElem?_map,this]
    show some (Value.int .u8 ((y9.getD 8 0).toNat:Int))=_
    rw [hn]
   have hc8 : ∀ h : 8<y9.length,bv (y9[8]'h) = .int .u8 n:=fun h=>by
    have:=HC8.out
    rw [List.getElem?_toArray,List.getElem?_map,List.getElem?_eq_getElem h] at this
    exact Option.some.inj this
   have hkU:Tryz.prog.underlying 238=some (.array 9 5):=by kernel_rfl
   have hkI:(Tryz.prog.info? 238).map (·.size)=some (y9.map bv).length:=by rw [List.length_map,hy9];exact kbinfo
   have hst:=kb_store y9 hy9
   have hkS:(Tryz.prog.info? 238).map (·.size)=some (y9.map bv).toArray.size:=by rw [List.size_toArray];exact hkI
   have hkZ:z9.size=(y9.map bv).toArray.size:=(show z9.size=9 from rfl).trans (by simp [hy9])
   have hkO:(y9.map bv).toArray.all (·.oneCell')=true:=Go.all_oneCell_toArray (bv_one y9)
   obtain ⟨f',rfl⟩ : ∃ f',f=f'+1:=⟨f - 1,by have:=HK.out.fuel;have:=HK.out.inb;rw [List.length_drop] at h9;omega⟩
   have HRES:=Lib.hid HK.out.res
   unfold rdG at HRES
   have hg8:(s.drop off).getD 8 0=y9.getD 8 0:=by rw [← hy,List.getD_eq_getElem?_getD,List.getD_eq_getElem?_getD,List.getElem?_take,if_pos (by omega)]
   rw [hg8,hn,if_neg h9] at HRES
   have htk : ∀ k,k≤8→(s.drop off).take k=y9.take k:=fun k hk=>by rw [← hy,List.take_take,Nat.min_eq_left (by omega)]
   by_cases hn9 : 9<n
   ·have hRn:=HRES.out
    rw [if_pos hn9] at hRn
    subst hRn
    have hnI:decide ((n:Int)≤9)=false:=by simp;omega
    have hnN:decide (n≤9)=false:=by simp;omega
    clear hn hg8 htk hn9
    go_wp2_with (first
     | (go_at_call 161;refine HT.out.mono ?_;rintro e w1 ⟨rfl,hW1⟩;have HRG:=Lib.hid (bytes_range y9 w1);have HKB:=Lib.hid (HK.out.taken hne y9 hbl hxl hW1 (bytes_bel y9 w1));unfold strV)
     | (refine wpList_load_mid rfl 238 (.tmp 11) rfl w1.heap.size 0 (by rfl) (y9.map bv) _ HRG.out hkU rfl hkI ?_)
     | (go_at_call 165;refine (kmust_no _).mono ?_;rintro e w' ⟨rfl,rfl⟩))
    exact ⟨rfl,rfl,⟨_,HKB.out.val⟩,HKB.out.bel⟩
   rw [if_neg hn9] at HRES
   have hone:=bv_one (y9.take (min n 8))
   have hin:off+9≤s.length:=by rw [List.length_drop] at h9;omega
   have hfu:=HK.out.fuel
   have hsh:=HK.out.short
   rw [htk _ (Nat.min_le_right n 8)] at HRES
   have hrd:(s.drop off).drop 9=s.drop (off+9):=List.drop_drop
   rw [hrd] at HRES
   by_cases he9:n=9
   ·subst he9
    rw [show min 9 8=8 from rfl] at HRES hone
    rw [htk 8 (Nat.le_refl _)] at HRES
    have hm9 : 8≤y9.length:=by omega
    have hl8:(acc ++ y9.take 8).length=acc.length+8:=by rw [List.length_append,List.length_take];omega
    rw [hl8] at HRES
    have h63:acc.length+8≤maxLen:=by unfold maxLen;omega
    have hby:(acc.length+8) * 1≤140737488355328:=by omega
    have HML:=Lib.hid hl8
    clear hn hg8 htk hl8 h9
    by_cases hb : 200<acc.length+8
    ·have hRn:=HRES.out
     rw [if_pos hb] at hRn
     subst hRn
     have hbI:decide ((acc.length:Int)+8≤200)=false:=by simp;omega
     have hbN:decide (acc.length+8≤200)=false:=by simp;omega
     clear hsh
     go_wp2_with (first
      | (go_at_call 161;refine HT.out.mono ?_;rintro e w1 ⟨rfl,hW1⟩;have HRG:=Lib.hid (bytes_range y9 w1);have HKB:=Lib.hid (HK.out.taken hne y9 hbl hxl hW1 (bytes_bel y9 w1));unfold strV)
      | (refine wpList_load_mid rfl 238 (.tmp 11) rfl w1.heap.size 0 (by rfl) (y9.map bv) _ HRG.out hkU rfl hkI ?_)
      | (at_builtin;refine wpList_append_any _ rfl (.tmp 19) (.tmp 22) _ rfl w.heap.size 5 i0 _ 1 1 Tryz.underlying34 hi0 hz0 hz1 hz2 rfl hp1 (.slice A acc.length c) acc.length (acc.map bv) (by rfl) HKB.out.own _ (some ⟨(Lib.bytesWorld w1 5 ⟨y9.toArray⟩).heap.size,0,none⟩) 8 9 ((y9.take 8).map bv) (by rfl) (HKB.out.reads hm9) hone h63 hby HKB.out.bel.size ?_;intro v5 w5 hown5 hg5 hat5;obtain ⟨A5,c5,rfl⟩:=row_form hown5;have HK5:=Lib.hid (HKB.out.more hm9 hbl hxl hg5 hown5);have hg8:=HK5.out.arr.cell 8;rw [HC8.out] at hg8;have hf8:=HK5.out.arr.frozen 8;generalize (Lib.bytesWorld w1 5 ⟨y9.toArray⟩).heap.size=g at *;clear hown5 hg5 hat5)
      | (go_at_call 165;refine (kmust_yes _).mono ?_;rintro e w' ⟨rfl,rfl⟩)
      | (go_at_call 165;refine (kmust_no _).mono ?_;rintro e w' ⟨rfl,rfl⟩))
     exact ⟨rfl,rfl,⟨_,HK5.out.val⟩,HK5.out.bel⟩
    ·rw [if_neg hb] at HRES
     simp only [if_true] at HRES
     have hbI:(acc.length:Int)+8≤200:=by omega
     have hbN:acc.length+8≤200:=by omega
     have hbN':(acc ++ y9.take 8).length≤200:=by rw [HML.out];exact hbN
     clear hb
     go_wp2_with (first
      | (go_at_call 161;refine HT.out.mono ?_;rintro e w1 ⟨rfl,hW1⟩;have HRG:=Lib.hid (bytes_range y9 w1);have HKB:=Lib.hid (HK.out.taken hne y9 hbl hxl hW1 (bytes_bel y9 w1));unfold strV)
      | (refine wpList_load_mid rfl 238 (.tmp 11) rfl w1.heap.size 0 (by rfl) (y9.map bv) _ HRG.out hkU rfl hkI ?_)
      | (at_builtin;refine wpList_append_any _ rfl (.tmp 19) (.tmp 22) _ rfl w.heap.size 5 i0 _ 1 1 Tryz.underlying34 hi0 hz0 hz1 hz2 rfl hp1 (.slice A acc.length c) acc.length (acc.map bv) (by rfl) HKB.out.own _ (some ⟨(Lib.bytesWorld w1 5 ⟨y9.toArray⟩).heap.size,0,none⟩) 8 9 ((y9.take 8).map bv) (by rfl) (HKB.out.reads hm9) hone h63 hby HKB.out.bel.size ?_;intro v5 w5 hown5 hg5 hat5;obtain ⟨A5,c5,rfl⟩:=row_form hown5;have HK5:=Lib.hid (HKB.out.more hm9 hbl hxl hg5 hown5);have hg8:=HK5.out.arr.cell 8;rw [HC8.out] at hg8;have hf8:=HK5.out.arr.frozen 8;generalize (Lib.bytesWorld w1 5 ⟨y9.toArray⟩).heap.size=g at *;clear hown5 hg5 hat5)
      | (go_at_call 165;refine (kmust_yes _).mono ?_;rintro e w' ⟨rfl,rfl⟩)
      | (go_at_call 165;refine (kmust_no _).mono ?_;rintro e w' ⟨rfl,rfl⟩))
     have HN:=HK5.out.next (f:=f') (R:=R) hbN' hin (by omega) (by
      have:=HRES.out
      rw [Option.map_map] at this
      refine Eq.trans ?_ this
      congr 1
      funext z
      simp
      try omega)
     refine ⟨⟨acc ++ y9.take 8,off+9,f',A5,c5,by rw [HML.out],HN⟩,?_⟩
     rw [HN.left,HLF.out]
     omega
   ·have hn8:n≤8:=by omega
    have hn8I:(n:Int)≤8:=by omega
    have hmn:min n 8=n:=by omega
    rw [hmn,if_neg he9] at HRES
    rw [hmn] at hone
    have hm9:n≤y9.length:=by omega
    have hl8:(acc ++ y9.take n).length=acc.length+n:=by rw [List.length_append,List.length_take];omega
    rw [hl8] at HRES
    have h63:acc.length+n≤maxLen:=by unfold maxLen;omega
    have hby:(acc.length+n) * 1≤140737488355328:=by omega
    have hn9I:(n:Int)≤9:=by omega
    have hn9N:n≤9:=by omega
    have hne9:((n:Int) == 9)=false:=by rw [beq_eq_false_iff_ne];omega
    by_cases hb : 200<acc.length+n
    ·have hRn:=HRES.out
     rw [if_pos hb] at hRn
     subst hRn
     have hbI:decide ((acc.length:Int)+n≤200)=false:=by simp;omega
     have hbN:decide (acc.length+n≤200)=false:=by simp;omega
     clear hsh hn hg8 htk hl8 hfu h9 hmn
     go_wp2_with (first
      | (go_at_call 161;refine HT.out.mono ?_;rintro e w1 ⟨rfl,hW1⟩;have HRG:=Lib.hid (bytes_range y9 w1);have HKB:=Lib.hid (HK.out.taken hne y9 hbl hxl hW1 (bytes_bel y9 w1));unfold strV)
      | (refine wpList_load_mid rfl 238 (.tmp 11) rfl w1.heap.size 0 (by rfl) (y9.map bv) _ HRG.out hkU rfl hkI ?_)
      | (at_builtin;refine wpList_append_any _ rfl (.tmp 19) (.tmp 22) _ rfl w.heap.size 5 i0 _ 1 1 Tryz.underlying34 hi0 hz0 hz1 hz2 rfl hp1 (.slice A acc.length c) acc.length (acc.map bv) (by rfl) HKB.out.own _ (some ⟨(Lib.bytesWorld w1 5 ⟨y9.toArray⟩).heap.size,0,none⟩) n 9 ((y9.take n).map bv) (by rfl) (HKB.out.reads hm9) hone h63 hby HKB.out.bel.size ?_;intro v5 w5 hown5 hg5 hat5;obtain ⟨A5,c5,rfl⟩:=row_form hown5;have HK5:=Lib.hid (HKB.out.more hm9 hbl hxl hg5 hown5);have hg8:=HK5.out.arr.cell 8;rw [HC8.out] at hg8;have hf8:=HK5.out.arr.frozen 8;generalize (Lib.bytesWorld w1 5 ⟨y9.toArray⟩).heap.size=g at *;clear hown5 hg5 hat5)
      | (go_at_call 165;refine (kmust_yes _).mono ?_;rintro e w' ⟨rfl,rfl⟩)
      | (go_at_call 165;refine (kmust_no _).mono ?_;rintro e w' ⟨rfl,rfl⟩))
     exact ⟨rfl,rfl,⟨_,HK5.out.val⟩,HK5.out.bel⟩
    rw [if_neg hb] at HRES
    have hbI:(acc.length:Int)+n≤200:=by omega
    have hbN:acc.length+n≤200:=by omega
    have HRE:=rest_eq hy (by omega) hn8 hn
    rw [htk _ hn8] at HRES
    have hke:=fun W=>kblock_eq (restOf y9 n) y9 (by unfold restOf zeros;simp;omega) hy9 W
    have hkR:(Tryz.prog.info? 238).map (·.size)=some ((restOf y9 n).map bv).toArray.size:=by rw [kbinfo];unfold restOf zeros;simp;omega
    clear hn hg8 htk hfu h9 hmn hb
    by_cases hq:restOf y9 n=y9
    case neg =>
     have hRn:=HRES.out
     rw [if_neg (fun h=>hq (HRE.2 h.1))] at hRn
     subst hRn
     have hdq:decide (restOf y9 n=y9)=false:=by simpa using hq
     rw [hdq] at hke
     clear HRE
     go_wp2_with (first
      | (go_at_call 161;refine HT.out.mono ?_;rintro e w1 ⟨rfl,hW1⟩;have HRG:=Lib.hid (bytes_range y9 w1);have HKB:=Lib.hid (HK.out.taken hne y9 hbl hxl hW1 (bytes_bel y9 w1));unfold strV)
      | (refine wpList_load_mid rfl 238 (.tmp 11) rfl w1.heap.size 0 (by rfl) (y9.map bv) _ HRG.out hkU rfl hkI ?_)
      | (at_builtin;refine wpList_append_any _ rfl (.tmp 19) (.tmp 22) _ rfl w.heap.size 5 i0 _ 1 1 Tryz.underlying34 hi0 hz0 hz1 hz2 rfl hp1 (.slice A acc.length c) acc.length (acc.map bv) (by rfl) HKB.out.own _ (some ⟨(Lib.bytesWorld w1 5 ⟨y9.toArray⟩).heap.size,0,none⟩) n 9 ((y9.take n).map bv) (by rfl) (HKB.out.reads hm9) hone h63 hby HKB.out.bel.size ?_;intro v5 w5 hown5 hg5 hat5;obtain ⟨A5,c5,rfl⟩:=row_form hown5;have HK5:=Lib.hid (HKB.out.more hm9 hbl hxl hg5 hown5);obtain ⟨W7,hcp,e8,h8c,h8f,hlt7,HK8,HB8⟩:=HK5.out.rest hy9 hn8 hbl hxl;have HK8:=Lib.hid HK8;have HB8:=Lib.hid HB8;have hg8:=HK5.out.arr.cell 8;rw [HC8.out] at hg8;rw [hg8] at e8;have hf8:=HK5.out.arr.frozen 8;generalize (Lib.bytesWorld w1 5 ⟨y9.toArray⟩).heap.size=g at *;clear hown5 hg5 hat5)
      | (refine wpList_load_row rfl 238 (.tmp 7) rfl w5.heap.size (by rfl) 238 ((restOf y9 n).map bv).toArray (0,0) _ HB8.out hkU rfl hkR ?_)
      | (refine wpList_load_row rfl 238 (.tmp 5) rfl g (by rfl) 238 (y9.map bv).toArray (0,0) _ HK8.out.arr hkU rfl hkS ?_)
      | (go_at_call 165;refine (kmust_yes _).mono ?_;rintro e w' ⟨rfl,rfl⟩)
      | (go_at_call 165;refine (kmust_no _).mono ?_;rintro e w' ⟨rfl,rfl⟩))
     go_region
     go_wp2_with (first
      | (refine wpList_load_row rfl 238 (.tmp 7) rfl w5.heap.size (by rfl) 238 ((restOf y9 n).map bv).toArray (0,0) _ HB8.out hkU rfl hkR ?_)
      | (refine wpList_load_row rfl 238 (.tmp 5) rfl g (by rfl) 238 (y9.map bv).toArray (0,0) _ HK8.out.arr hkU rfl hkS ?_)
      | (go_at_call 165;refine (kmust_yes _).mono ?_;rintro e w' ⟨rfl,rfl⟩)
      | (go_at_call 165;refine (kmust_no _).mono ?_;rintro e w' ⟨rfl,rfl⟩))
     exact ⟨rfl,rfl,⟨_,HK8.out.val⟩,HK8.out.bel⟩
    case pos =>
     have hdq:decide (restOf y9 n=y9)=true:=by simpa using hq
     have hz:=HRE.1 hq
     rw [hdq] at hke
     have HL8:=Lib.hid hl8
     clear hq hdq HRE hl8
     by_cases h0 : 0<n
     ·have hRs:=HRES.out
      rw [if_pos ⟨hz,.inl h0⟩] at hRs
      have h0I:(0:Int)<n:=by omega
      clear hz
      go_wp2_with (first
       | (go_at_call 161;refine HT.out.mono ?_;rintro e w1 ⟨rfl,hW1⟩;have HRG:=Lib.hid (bytes_range y9 w1);have HKB:=Lib.hid (HK.out.taken hne y9 hbl hxl hW1 (bytes_bel y9 w1));unfold strV)
       | (refine wpList_load_mid rfl 238 (.tmp 11) rfl w1.heap.size 0 (by rfl) (y9.map bv) _ HRG.out hkU rfl hkI ?_)
       | (at_builtin;refine wpList_append_any _ rfl (.tmp 19) (.tmp 22) _ rfl w.heap.size 5 i0 _ 1 1 Tryz.underlying34 hi0 hz0 hz1 hz2 rfl hp1 (.slice A acc.length c) acc.length (acc.map bv) (by rfl) HKB.out.own _ (some ⟨(Lib.bytesWorld w1 5 ⟨y9.toArray⟩).heap.size,0,none⟩) n 9 ((y9.take n).map bv) (by rfl) (HKB.out.reads hm9) hone h63 hby HKB.out.bel.size ?_;intro v5 w5 hown5 hg5 hat5;obtain ⟨A5,c5,rfl⟩:=row_form hown5;have HK5:=Lib.hid (HKB.out.more hm9 hbl hxl hg5 hown5);obtain ⟨W7,hcp,e8,h8c,h8f,hlt7,HK8,HB8⟩:=HK5.out.rest hy9 hn8 hbl hxl;have HK8:=Lib.hid HK8;have HB8:=Lib.hid HB8;have ho8:=HK8.out.own;rw [HL8.out] at ho8;have hcv:=conv_reads (s:=acc ++ y9.take n) c5 (by rw [HL8.out];exact Reads.of_own ho8);rw [HL8.out] at hcv;unfold strV at hcv;have x3:(W7.setCell ⟨w5.heap.size,8,none⟩ (.int .u8 n)).cell? ⟨gx,3,none⟩=some (.string ⟨#[]⟩):=HK8.out.val.cell 3;have xf3:=HK8.out.val.frozen 3;clear ho8;have hg8:=HK5.out.arr.cell 8;rw [HC8.out] at hg8;rw [hg8] at e8;have hf8:=HK5.out.arr.frozen 8;generalize (Lib.bytesWorld w1 5 ⟨y9.toArray⟩).heap.size=g at *;clear hown5 hg5 hat5)
       | (refine wpList_load_row rfl 238 (.tmp 7) rfl w5.heap.size (by rfl) 238 ((restOf y9 n).map bv).toArray (0,0) _ HB8.out hkU rfl hkR ?_)
       | (refine wpList_load_row rfl 238 (.tmp 5) rfl g (by rfl) 238 (y9.map bv).toArray (0,0) _ HK8.out.arr hkU rfl hkS ?_)
       | (go_at_call 165;refine (kmust_yes _).mono ?_;rintro e w' ⟨rfl,rfl⟩)
       | (go_at_call 165;refine (kmust_no _).mono ?_;rintro e w' ⟨rfl,rfl⟩))
      go_region
      go_wp2_with (first
       | (refine wpList_load_row rfl 238 (.tmp 7) rfl w5.heap.size (by rfl) 238 ((restOf y9 n).map bv).toArray (0,0) _ HB8.out hkU rfl hkR ?_)
       | (refine wpList_load_row rfl 238 (.tmp 5) rfl g (by rfl) 238 (y9.map bv).toArray (0,0) _ HK8.out.arr hkU rfl hkS ?_)
       | (go_at_call 165;refine (kmust_yes _).mono ?_;rintro e w' ⟨rfl,rfl⟩)
       | (go_at_call 165;refine (kmust_no _).mono ?_;rintro e w' ⟨rfl,rfl⟩))
      go_end0
      subst hRs
      refine ⟨rfl,HK8.out.val.set_ 3 _,?_,HK8.out.bel.setCell (by show ¬ (gx ≠ bt∧gx ≠ gx);omega) _⟩
      rw [Nat.add_comm 9 off]
      exact HK8.out.tape.far (by exact hne) _
     ·have h0I:(n:Int)≤0:=by omega
      have h0D:decide ((n:Int) > 0)=false:=by simp;omega
      have h0N:decide (0<n)=false:=by simpa using h0
      by_cases hacc:acc=[]
      ·have hRs:=HRES.out
       rw [if_pos ⟨hz,.inr hacc⟩] at hRs
       have hyI:(((acc.length:Int)+n) == 0)=true:=by rw [beq_iff_eq,hacc];simp;omega
       clear hz h0 hacc
       go_wp2_with (first
        | (go_at_call 161;refine HT.out.mono ?_;rintro e w1 ⟨rfl,hW1⟩;have HRG:=Lib.hid (bytes_range y9 w1);have HKB:=Lib.hid (HK.out.taken hne y9 hbl hxl hW1 (bytes_bel y9 w1));unfold strV)
        | (refine wpList_load_mid rfl 238 (.tmp 11) rfl w1.heap.size 0 (by rfl) (y9.map bv) _ HRG.out hkU rfl hkI ?_)
        | (at_builtin;refine wpList_append_any _ rfl (.tmp 19) (.tmp 22) _ rfl w.heap.size 5 i0 _ 1 1 Tryz.underlying34 hi0 hz0 hz1 hz2 rfl hp1 (.slice A acc.length c) acc.length (acc.map bv) (by rfl) HKB.out.own _ (some ⟨(Lib.bytesWorld w1 5 ⟨y9.toArray⟩).heap.size,0,none⟩) n 9 ((y9.take n).map bv) (by rfl) (HKB.out.reads hm9) hone h63 hby HKB.out.bel.size ?_;intro v5 w5 hown5 hg5 hat5;obtain ⟨A5,c5,rfl⟩:=row_form hown5;have HK5:=Lib.hid (HKB.out.more hm9 hbl hxl hg5 hown5);obtain ⟨W7,hcp,e8,h8c,h8f,hlt7,HK8,HB8⟩:=HK5.out.rest hy9 hn8 hbl hxl;have HK8:=Lib.hid HK8;have HB8:=Lib.hid HB8;have ho8:=HK8.out.own;rw [HL8.out] at ho8;have hcv:=conv_reads (s:=acc ++ y9.take n) c5 (by rw [HL8.out];exact Reads.of_own ho8);rw [HL8.out] at hcv;unfold strV at hcv;have x3:(W7.setCell ⟨w5.heap.size,8,none⟩ (.int .u8 n)).cell? ⟨gx,3,none⟩=some (.string ⟨#[]⟩):=HK8.out.val.cell 3;have xf3:=HK8.out.val.frozen 3;clear ho8;have hg8:=HK5.out.arr.cell 8;rw [HC8.out] at hg8;rw [hg8] at e8;have hf8:=HK5.out.arr.frozen 8;generalize (Lib.bytesWorld w1 5 ⟨y9.toArray⟩).heap.size=g at *;clear hown5 hg5 hat5)
        | (refine wpList_load_row rfl 238 (.tmp 7) rfl w5.heap.size (by rfl) 238 ((restOf y9 n).map bv).toArray (0,0) _ HB8.out hkU rfl hkR ?_)
        | (refine wpList_load_row rfl 238 (.tmp 5) rfl g (by rfl) 238 (y9.map bv).toArray (0,0) _ HK8.out.arr hkU rfl hkS ?_)
        | (go_at_call 165;refine (kmust_yes _).mono ?_;rintro e w' ⟨rfl,rfl⟩)
        | (go_at_call 165;refine (kmust_no _).mono ?_;rintro e w' ⟨rfl,rfl⟩))
       go_region
       go_wp2_with (first
        | (refine wpList_load_row rfl 238 (.tmp 7) rfl w5.heap.size (by rfl) 238 ((restOf y9 n).map bv).toArray (0,0) _ HB8.out hkU rfl hkR ?_)
        | (refine wpList_load_row rfl 238 (.tmp 5) rfl g (by rfl) 238 (y9.map bv).toArray (0,0) _ HK8.out.arr hkU rfl hkS ?_)
        | (go_at_call 165;refine (kmust_yes _).mono ?_;rintro e w' ⟨rfl,rfl⟩)
        | (go_at_call 165;refine (kmust_no _).mono ?_;rintro e w' ⟨rfl,rfl⟩))
       go_end0
       subst hRs
       refine ⟨rfl,HK8.out.val.set_ 3 _,?_,HK8.out.bel.setCell (by show ¬ (gx ≠ bt∧gx ≠ gx);omega) _⟩
       rw [Nat.add_comm 9 off]
       exact HK8.out.tape.far (by exact hne) _
      ·have hRn:=HRES.out
       rw [if_neg (by intro hh;rcases hh.2 with h | h;exact absurd h h0;exact hacc h)] at hRn
       subst hRn
       have hyI:(((acc.length:Int)+n) == 0)=false:=by rw [beq_eq_false_iff_ne];have:=List.length_pos_iff.2 hacc;omega
       clear hz h0 hacc
       go_wp2_with (first
        | (go_at_call 161;refine HT.out.mono ?_;rintro e w1 ⟨rfl,hW1⟩;have HRG:=Lib.hid (bytes_range y9 w1);have HKB:=Lib.hid (HK.out.taken hne y9 hbl hxl hW1 (bytes_bel y9 w1));unfold strV)
        | (refine wpList_load_mid rfl 238 (.tmp 11) rfl w1.heap.size 0 (by rfl) (y9.map bv) _ HRG.out hkU rfl hkI ?_)
        | (at_builtin;refine wpList_append_any _ rfl (.tmp 19) (.tmp 22) _ rfl w.heap.size 5 i0 _ 1 1 Tryz.underlying34 hi0 hz0 hz1 hz2 rfl hp1 (.slice A acc.length c) acc.length (acc.map bv) (by rfl) HKB.out.own _ (some ⟨(Lib.bytesWorld w1 5 ⟨y9.toArray⟩).heap.size,0,none⟩) n 9 ((y9.take n).map bv) (by rfl) (HKB.out.reads hm9) hone h63 hby HKB.out.bel.size ?_;intro v5 w5 hown5 hg5 hat5;obtain ⟨A5,c5,rfl⟩:=row_form hown5;have HK5:=Lib.hid (HKB.out.more hm9 hbl hxl hg5 hown5);obtain ⟨W7,hcp,e8,h8c,h8f,hlt7,HK8,HB8⟩:=HK5.out.rest hy9 hn8 hbl hxl;have HK8:=Lib.hid HK8;have HB8:=Lib.hid HB8;have hg8:=HK5.out.arr.cell 8;rw [HC8.out] at hg8;rw [hg8] at e8;have hf8:=HK5.out.arr.frozen 8;generalize (Lib.bytesWorld w1 5 ⟨y9.toArray⟩).heap.size=g at *;clear hown5 hg5 hat5)
        | (refine wpList_load_row rfl 238 (.tmp 7) rfl w5.heap.size (by rfl) 238 ((restOf y9 n).map bv).toArray (0,0) _ HB8.out hkU rfl hkR ?_)
        | (refine wpList_load_row rfl 238 (.tmp 5) rfl g (by rfl) 238 (y9.map bv).toArray (0,0) _ HK8.out.arr hkU rfl hkS ?_)
        | (go_at_call 165;refine (kmust_yes _).mono ?_;rintro e w' ⟨rfl,rfl⟩)
        | (go_at_call 165;refine (kmust_no _).mono ?_;rintro e w' ⟨rfl,rfl⟩))
       go_region
       go_wp2_with (first
        | (refine wpList_load_row rfl 238 (.tmp 7) rfl w5.heap.size (by rfl) 238 ((restOf y9 n).map bv).toArray (0,0) _ HB8.out hkU rfl hkR ?_)
        | (refine wpList_load_row rfl 238 (.tmp 5) rfl g (by rfl) 238 (y9.map bv).toArray (0,0) _ HK8.out.arr hkU rfl hkS ?_)
        | (go_at_call 165;refine (kmust_yes _).mono ?_;rintro e w' ⟨rfl,rfl⟩)
        | (go_at_call 165;refine (kmust_no _).mono ?_;rintro e w' ⟨rfl,rfl⟩))
       exact ⟨rfl,rfl,⟨_,HK8.out.val⟩,HK8.out.bel⟩
end
section
open Go.RowKit Go.Shelf Go.Lib
attribute [local go_sem] Oper.semAt_some
set_option maxRecDepth 100000 in
set_option maxHeartbeats 2000000 in
theorem kread_bool_no (bt gx:Nat) (w:World) (h:Blk w bt 215 #[strV []]) (hx:Blk w gx 64 (vcells (kv 3))) :
 Calls Tryz.prog 167 #[.pointer (some ⟨bt,0,none⟩),.pointer (some ⟨gx,0,none⟩)] w (KGave bt gx w):=by
 have HT:=Lib.hid (ktake_no bt [] 1 1 rfl (by simp) w h)
 have HX:=Lib.hid hx
 clear h hx
 go_enter Tryz.func167,Tryz.ntmps167
 go_wp2_with fail
 refine HT.out.mono ?_
 rintro e w1 ⟨rfl,rfl⟩
 go_wp2
 exact ⟨rfl,rfl,⟨_,HX.out⟩,BelS.refl _ _⟩
def KRest (bt gx:Nat) (s:List UInt8) (R:Option (Val×Nat)) (w:World) (e:Ending) (w':World):Prop :=
 match R with
 | none=>KGave bt gx w e w'
 | some (x,m)=>KRead bt gx x (s.drop m) w e w'
theorem kread_any (bt gx:Nat) (c:UInt8) (t:List UInt8) (hs:t.length≤1000000) (hc:c.toNat≤4) (w:World) (hne:bt ≠ gx) (h:Blk w bt 215 #[strV t]) (hx:Blk w gx 64 (vcells (kv c.toNat))) :
 Calls Tryz.prog (kreadF c.toNat) #[.pointer (some ⟨bt,0,none⟩),.pointer (some ⟨gx,0,none⟩)] w (KRest bt gx (c :: t) (rdKeyV (c :: t)) w):=by
 unfold rdKeyV
 dsimp only
 have hk:c.toNat=0 ∨ c.toNat=1 ∨ c.toNat=2 ∨ c.toNat=3 ∨ c.toNat=4:=by omega
 generalize hn:c.toNat=n at *
 clear hn
 rcases hk with rfl | rfl | rfl | rfl | rfl
 ·exact kread_null bt gx t w h hx
 ·rw [if_neg (by decide),if_pos rfl]
  by_cases h8:t.length<8
  ·rw [if_pos h8]
   exact kread_int_no bt gx t h8 w h hx
  ·rw [if_neg h8]
   exact kread_int bt gx t (by omega) w hne h hx
 ·rw [if_neg (by decide),if_neg (by decide),if_pos rfl]
  cases hr:rdNum t with
  | none=>exact kread_uint_no bt gx t hs hr w h hx
  | some q =>
    have:=kread_uint bt gx t hs (n:=q.1) (m:=q.2) hr w hne h hx
    have hd:(c :: t).drop (1+q.2)=t.drop q.2:=by rw [Nat.add_comm];rfl
    show Calls _ _ _ _ (KRead bt gx ⟨2,0,q.1,⟨#[]⟩⟩ ((c :: t).drop (1+q.2)) w)
    rw [hd]
    exact this
 ·rw [if_neg (by decide),if_neg (by decide),if_neg (by decide),if_pos rfl]
  cases t with
  | nil=>exact kread_bool_no bt gx w h hx
  | cons d t =>
    rw [if_neg (by simp)]
    have:=kread_bool bt gx d t w hne h hx
    show Calls _ _ _ _ (KRest bt gx (c :: d :: t) (if 1<d.toNat then none else some (⟨3,d.toNat,0,⟨#[]⟩⟩,2)) w)
    by_cases hd : 1<d.toNat
    ·simp only [if_pos hd] at this ⊢
     exact this
    ·simp only [if_neg hd] at this ⊢
     exact this
 ·rw [if_neg (by decide),if_neg (by decide),if_neg (by decide),if_neg (by decide),if_pos rfl]
  have:=kread_bytes bt gx t w hne h hx
  cases hr:rdG t.length [] t with
  | none=>rw [hr] at this;exact this
  | some q =>
    rw [hr] at this
    have hd:(c :: t).drop (1+q.2)=t.drop q.2:=by rw [Nat.add_comm];rfl
    show Calls _ _ _ _ (KRead bt gx ⟨4,0,0,⟨q.1.toArray⟩⟩ ((c :: t).drop (1+q.2)) w)
    rw [hd]
    exact this
theorem kreadF_enters {t:Int} (h0 : 0≤t) (h4:t≤4) : ∀ args w,(callFunc (kreadF t) args).run Tryz.prog w = .ok (.enter (kreadF t) args) w:=by
 have hc:t=0 ∨ t=1 ∨ t=2 ∨ t=3 ∨ t=4:=by omega
 rcases hc with rfl | rfl | rfl | rfl | rfl
 ·exact enters_of Tryz.func155 (by kernel_rfl) rfl
 ·exact enters_of Tryz.func159 (by kernel_rfl) rfl
 ·exact enters_of Tryz.func164 (by kernel_rfl) rfl
 ·exact enters_of Tryz.func167 (by kernel_rfl) rfl
 ·exact enters_of Tryz.func169 (by kernel_rfl) rfl
theorem kyOneC_any (g h:Nat) (x:Val) (n:Int) (hne:g ≠ h) (w:World) (hx:Blk w g 64 (vcells x)) (hn:Blk w h 3 #[.int .i64 n]) :
 Calls Tryz.prog 172 #[.pointer (some ⟨g,0,none⟩),.pointer (some ⟨h,0,none⟩)] w fun e w'=>e = .returned (.tuple #[])∧Blk w' g 64 (vcells noVal)∧Blk w' h 3 #[.int .i64 0]∧BelS (fun j=>j ≠ g∧j ≠ h) w w':=by
 have c0:w.cell? ⟨g,0,none⟩=some (.int .i64 x.k):=hx.cell 0
 have c1:w.cell? ⟨g,1,none⟩=some (.int .i64 x.n):=hx.cell 1
 have c2:w.cell? ⟨g,2,none⟩=some (.int .u64 x.u):=hx.cell 2
 have c3:w.cell? ⟨g,3,none⟩=some (.string x.b):=hx.cell 3
 have f0:=hx.frozen 0
 have f1:=hx.frozen 1
 have f2:=hx.frozen 2
 have f3:=hx.frozen 3
 have d0:w.cell? ⟨h,0,none⟩=some (.int .i64 n):=hn.cell 0
 have e0:=hn.frozen 0
 have HF:Hid ((fun w':World=>Blk w' g 64 (vcells noVal)∧Blk w' h 3 #[.int .i64 0]∧BelS (fun j=>j ≠ g∧j ≠ h) w w') (((((w.setCell ⟨g,0,none⟩ (.int .i64 0)).setCell ⟨g,1,none⟩ (.int .i64 0)).setCell ⟨g,2,none⟩ (.int .u64 0)).setCell ⟨g,3,none⟩ (.string ⟨#[]⟩)).setCell ⟨h,0,none⟩ (.int .i64 0))):=by
  have hS : ¬ (g ≠ g∧g ≠ h):=by omega
  have hT : ¬ (h ≠ g∧h ≠ h):=by omega
  refine Lib.hid ⟨(((((hx.set_ 0 _).set_ 1 _).set_ 2 _).set_ 3 _).far (by exact hne) _),?_,(((((BelS.refl _ w).setCell hS _).setCell hS _).setCell hS _).setCell hS _).setCell hT _⟩
  exact ((((hn.far (by exact (Ne.symm hne)) _).far (by exact (Ne.symm hne)) _).far (by exact (Ne.symm hne)) _).far (by exact (Ne.symm hne)) _).set_ 0 _
 clear hx hn
 go_enter Tryz.func172,Tryz.ntmps172
 go_wp2
 go_end0
 exact ⟨rfl,HF.out⟩
def kOne (R:Option (Val×Nat)):Value:=match R with
 | some (x,m)=>.tuple #[x.v,.int .i64 m,.int .i64 0]
 | none=>.tuple #[noVal.v,.int .i64 0,.int .i64 150]
end
end Go.Proofs.YtnajjhgbombboaaGreatDoor
