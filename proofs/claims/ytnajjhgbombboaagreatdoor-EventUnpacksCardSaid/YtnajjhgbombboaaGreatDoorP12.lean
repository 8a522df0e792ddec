/-
  Texts behind the statement: part 12.
-/
import Derived.Test.YtnajjhgbombboaaGreatDoorP11
import Derived.RangeFuncWrites
import Derived.Maps.OwnIn
set_option linter.unusedVariables false
set_option linter.unusedSimpArgs false
namespace Go.Proofs.YtnajjhgbombboaaGreatDoor
section
open Go.RowKit Go.Shelf Go.Lib
attribute [local go_sem] Oper.semAt_some
def outK (s:List UInt8) (k:Nat):List UInt8:=if 0<s.length∧k=nCh s.length then grp s else grpPre s k
theorem outK_zero (s:List UInt8):outK s 0=[]:=by
 unfold outK
 rw [if_neg (by unfold nCh;omega)]
 rfl
theorem blk_new1_ (w:World) (o:Obj) (t:TypeId) (cs:Array Value):Blk ((w.alloc o).alloc (.cells cs t)) (w.heap.size+1) t cs:=by
 have:=Blk.new (w.alloc o) t cs
 rwa [World.size_alloc] at this
def leftK (s:List UInt8) (k:Nat):Nat:=s.length - 8 * k
structure LaidI (W0:World) (b:Nat) (s:List UInt8) (k:Nat) (V:World):Prop where
 left:Blk V (b+2) 3 #[.int .i64 (leftK s k)]
 out : ∃ A c,Blk V (b+1) 34 #[.slice A (outK s k).length c]∧V.ownsRow (b+6) 5 1 (.slice A (outK s k).length c) (outK s k).length ((outK s k).map bv)
 keep:BelS (fun j=>j ≠ b+1∧j ≠ b+2∧j<b+6) W0 V
theorem LaidI.own (W0:World) (b:Nat) (s:List UInt8) (B:Nat) (hB:b+6≤B):OwnFrom B (fun (pre:List Nat) V=>LaidI W0 b s pre.length V):=fun pre V V' row h hg hr=>by
 have hr2:=fun r e=>(hr r e).2
 obtain ⟨A,c,h1,h2⟩:=h.out
 have hkb : ∀ (g:Nat) (T:TypeId) (cs:Array Value),Blk V g T cs→Blk V' g T cs:=fun g T cs hB=>hB.grown hg (fun e=>by
  obtain ⟨o,ho,hc⟩:=hr2 g e.symm
  unfold Blk at hB
  rw [hB] at ho
  cases ho
  cases hc)
 refine ⟨hkb _ _ _ h.left,⟨A,c,hkb _ _ _ h1,?_⟩,h.keep.grown hg (fun k e hk=>by have:=(hr k e).1;omega)⟩
 refine ⟨h2.1,?_⟩
 rcases h2.2 with h3 | ⟨g,cap,cur,hv,hgb,hh,r⟩
 ·exact .inl h3
 ·exact .inr ⟨g,cap,cur,hv,hgb,hkb _ _ _ hh,r⟩
theorem slChunk_at (A:Option Addr) (n c B:Nat) (w:World) (hB:w.heap.size=B):Calls Tryz.prog 190 #[.slice A n c,.int .i64 8] w fun e w'=>e = .returned (.func (.func 204) #[] #[.pointer (some ⟨B,0,none⟩),.pointer (some ⟨B+1,0,none⟩)])∧(w.alloc (.cells #[.slice A n c] 34)).alloc (.cells #[.int .i64 8] 3)=w':=by
 subst hB
 exact slChunk_any A n c w
theorem range_pre {n x:Nat} {pre rest:List Nat} (h:List.range n=pre ++ x :: rest):x=pre.length∧pre.length<n:=by
 have h1:=congrArg (fun l=>l[pre.length]?) h
 simp at h1
 have h2:pre.length<n:=by
  have:=congrArg List.length h
  simp at this
  omega
 rw [List.getElem?_range h2] at h1
 simp at h1
 exact ⟨h1.symm,h2⟩
theorem bytesWorld_bel (w:World) (e:TypeId) (s:ByteArray):Bel w (Lib.bytesWorld w e s):=by
 exact ⟨rfl,rfl,rfl,by rw [Lib.bytesWorld_size];omega,fun i hi=>Lib.bytesWorld_at_old w e s i hi⟩
structure LaidW (W0:World) (b:Nat) (s:List UInt8) (cap:Nat):Prop where
 size:W0.heap.size=b+6
 c4:W0.cell? ⟨b+4,0,none⟩=some (.slice (some ⟨b+3,0,none⟩) s.length cap)
 c5:W0.cell? ⟨b+5,0,none⟩=some (.int .i64 8)
 bytes : ∀ (j:Nat) (c:UInt8),s[j]? = some c→W0.cell? ⟨b+3,j,none⟩=some (bv c)
 start:LaidI W0 b s 0 W0
theorem laid_start (w:World) (b:ByteArray) (v0 v1 v2:Value) (hb:b.size≤1000) (V0:World) (hV:V0=((w.alloc (.cells #[v0,v1,v2,.string b] 64)).alloc (.cells #[.slice none 0 0] 34)).alloc (.cells #[.int .i64 b.size] 3)) (cap:Nat) :
 LaidW (((Lib.bytesWorld V0 5 b).alloc (.cells #[.slice (some ⟨w.heap.size+3,0,none⟩) b.size cap] 34)).alloc (.cells #[.int .i64 8] 3)) w.heap.size b.data.toList cap:=by
 have hsz:V0.heap.size=w.heap.size+3:=by rw [hV];simp
 have hbs:(Lib.bytesWorld V0 5 b).heap.size=w.heap.size+4:=by rw [Lib.bytesWorld_size,hsz]
 have hB2:Bel V0 (((Lib.bytesWorld V0 5 b).alloc (.cells #[.slice (some ⟨w.heap.size+3,0,none⟩) b.size cap] 34)).alloc (.cells #[.int .i64 8] 3)):=((bytesWorld_bel V0 5 b).alloc _).alloc _
 have k1:Blk V0 (w.heap.size+1) 34 #[.slice none 0 0]:=by
  rw [hV]
  exact (blk_new1_ w _ _ _).alloc _
 have k2:Blk V0 (w.heap.size+2) 3 #[.int .i64 b.size]:=by
  rw [hV]
  have:=Blk.new ((w.alloc (.cells #[v0,v1,v2,.string b] 64)).alloc (.cells #[.slice none 0 0] 34)) 3 #[.int .i64 b.size]
  simpa using this
 have k1':=k1.below hB2 (by omega)
 have k2':=k2.below hB2 (by omega)
 refine ⟨by simp [hbs],?_,?_,?_,⟨?_,⟨none,0,?_,?_⟩,BelS.refl _ _⟩⟩
 ·have:=(Blk.new (Lib.bytesWorld V0 5 b) 34 #[.slice (some ⟨w.heap.size+3,0,none⟩) b.size cap]).alloc (.cells #[.int .i64 8] 3)
  rw [hbs] at this
  exact this.cell 0
 ·have:=Blk.new ((Lib.bytesWorld V0 5 b).alloc (.cells #[.slice (some ⟨w.heap.size+3,0,none⟩) b.size cap] 34)) 3 #[.int .i64 8]
  rw [World.size_alloc,hbs] at this
  exact this.cell 0
 ·intro j c hj
  have hjl:j<b.size:=by have:=(List.getElem?_eq_some_iff.1 hj).1;exact this
  have:=Lib.bytesWorld_cell V0 5 b j hjl
  rw [hsz] at this
  have h2:=((Bel.refl (Lib.bytesWorld V0 5 b)).alloc (.cells #[.slice (some ⟨w.heap.size+3,0,none⟩) b.size cap] 34)).alloc (.cells #[.int .i64 8] 3)
  rw [h2.c this]
  have hc:b.data.toList.getD j 0=c:=by rw [List.getD_eq_getElem?_getD,hj];rfl
  rw [hc]
  rfl
 ·have e:leftK b.data.toList 0=b.size:=by unfold leftK;rw [Nat.mul_zero,Nat.sub_zero];rfl
  rw [e]
  exact k2'
 ·rw [outK_zero]
  exact k1'
 ·rw [outK_zero]
  exact World.ownsRow_nil _ _ _ _
theorem outK_len (s:List UInt8) (k:Nat) (hs:s.length≤200) (hk:k≤100):(outK s k).length≤1000:=by
 unfold outK
 split
 ·rw [grp_len];unfold grpQ;omega
 ·have : ∀ j,(grpPre s j).length≤9 * j:=by
   intro j
   induction j with
   | zero=>simp [grpPre]
   | succ j ih =>
     rw [grpPre_succ,List.length_append]
     have:(grpAt s j).length≤9:=by unfold grpAt;rw [List.length_append,List.length_take];simp;omega
     omega
  have:=this k
  omega
theorem outK_last {s:List UInt8} {k m:Nat} (h:k+1=nCh s.length) (hm:min 8 (s.length - 8 * k)=m):outK s k ++ ((s.drop (8 * k)).take m ++ zeros (8 - m) ++ [UInt8.ofNat m])=outK s (k+1):=by
 have hq:grpQ s=k:=by unfold grpQ;unfold nCh at h;omega
 have hml:(s.drop (8 * k)).length=m:=by rw [List.length_drop];unfold nCh at h;omega
 have h1:outK s (k+1)=grp s:=by unfold outK;rw [if_pos ⟨by unfold nCh at h;omega,h⟩]
 have h0:outK s k=grpPre s k:=by unfold outK;rw [if_neg (by omega)]
 rw [h1,h0]
 unfold grp grpLast
 rw [hq,hml,List.take_of_length_le (by omega)]
theorem outK_more {s:List UInt8} {k:Nat} (h : ¬ k+1=nCh s.length) (hk:k<nCh s.length):outK s k ++ ((s.drop (8 * k)).take 8 ++ zeros (8 - 8) ++ [(9:UInt8)])=outK s (k+1):=by
 have h0:outK s k=grpPre s k:=by unfold outK;rw [if_neg (by omega)]
 have h1:outK s (k+1)=grpPre s (k+1):=by unfold outK;rw [if_neg (by omega)]
 rw [h1,h0,grpPre_succ]
 unfold grpAt
 simp [zeros]
theorem arr9 (ys:List UInt8) (m:Nat) (hm:ys.length=m) (h8:m≤8) (x:UInt8) (v:Value) (hv:v=bv x):((ys.map bv ++ zrow (9 - m)).toArray).setIfInBounds 8 v=((ys ++ zeros (8 - m) ++ [x]).map bv).toArray:=by
 subst hv hm
 have e:zrow (9 - ys.length)=(zeros (8 - ys.length)).map bv ++ [.int .u8 0]:=by
  rw [zrow_map]
  unfold zrow
  rw [show 9 - ys.length=(8 - ys.length)+1 by omega,List.replicate_succ']
 rw [e,List.setIfInBounds_toArray,← List.append_assoc,List.set_append_right _ _ (by simp [zeros];omega)]
 have : 8 - (ys.map bv ++ (zeros (8 - ys.length)).map bv).length=0:=by simp [zeros];omega
 rw [this]
 simp
section
variable {F:Fence} {nF:Nat} {P:Program}
theorem opIn_append_at (w:World) {o:Oper} {a:Act} {K:Act→World→Prop} {Q:Exit→Act→World→Prop} (s x:Operand) (t:TypeId)
 (ho:o.op = .call { callee:=.builtin .append,args:=#[s,x],argTypes:=#[t,t] })
 (base:Nat) (e:TypeId) (i:TypeInfo) (z:Value) (size bytes:Nat) (ht:P.underlying t=some (.slice e)) (hi:P.info? e=some i) (hz:i.zero=some z)
 (hsize:i.size=size) (hby:i.bytes=bytes) (hzs:z.cells.size=size) (hsz : 0<size)
 (v:Value) (n:Nat) (xs:List Value) (hs:a.eval s=v) (hown:w.ownsRow base e size v n xs)
 (ad:Addr) (m c:Nat) (news:List Value) (hx:a.eval x = .slice (some ad) m c) (hl:news.length=m * size) (hnews : ∀ j u,news[j]? = some u→w.cell? (ad.add j)=some u) (h1 : ∀ u ∈ news,u.oneCell'=true)
 (h63:n+m≤maxLen) (hbytes:(n+m) * bytes≤140737488355328) (hbase:base≤w.heap.size)
 (h : ∀ v' w',w'.ownsRow base e size v' (n+m) (xs ++ news)→w.grownBy w' v.ownBlock→(v'.ownBlock=v.ownBlock ∨ v'.ownBlock=some w.heap.size)→K (a.put o.dst v') w') :
 o.wpIn F nF P a w K Q:=by
 obtain ⟨v',w',hr,h2,h3,h4,h5⟩:=run_append_own_at (P:=P) w base t o.type e i z size bytes ht hi hz hsize hby hzs hsz v n xs hown ad m c news hl hnews h1 h63 hbytes hbase
 unfold Oper.wpIn
 refine ⟨by simp [Oper.about,ho,resolve,Target.leads,Sem.run_pure],?_⟩
 rw [Oper.semAt_plain F _ _ (by rw [ho];intro c hc';cases hc')]
 simp [execOp,ho,resolve,invoke,builtin,hs,hx,hr,Result.andThen]
 exact h v' w' h2 h3 h5
end
def z9:Array Value:=#[.int .u8 0,.int .u8 0,.int .u8 0,.int .u8 0,.int .u8 0,.int .u8 0,.int .u8 0,.int .u8 0,.int .u8 0]
theorem copy9 (Wb:World) (g off m:Nat) (ys:List UInt8) (hm:ys.length=m) (h8:m≤8) (hc : ∀ (j:Nat) (c:UInt8),ys[j]? = some c→Wb.cell? ⟨g,off+j,none⟩=some (bv c)) :
 ∃ w1,(Builtin.copy_ #[34,34] 3 #[.slice (some ⟨Wb.heap.size,0,none⟩) 9 9,.slice (some ⟨g,off,none⟩) m m]).run Tryz.prog (Wb.alloc (.cells z9 238)) = .ok (.int .i64 m) w1 ∧
  Bel Wb w1∧w1.heap.size=Wb.heap.size+1∧Blk w1 Wb.heap.size 238 (ys.map bv ++ zrow (9 - m)).toArray:=by
 subst hm
 have hB:=Blk.new Wb 238 z9
 have hr:=run_copy_row (P:=Tryz.prog) (Wb.alloc (.cells z9 238)) 34 34 3 5 Wb.heap.size 0 9 9 ⟨g,off,none⟩ ys.length ys.length z9 238 (ys.map bv) Tryz.underlying34 (by kernel_rfl) hB
  (by rw [List.length_map];exact (Nat.min_eq_left (by omega)).symm) (fun j v hj=>by
    rw [List.getElem?_map] at hj
    cases hy:ys[j]? with
    | none=>rw [hy] at hj;cases hj
    | some c =>
      rw [hy] at hj
      cases hj
      have e:(Addr.add ⟨g,off,none⟩ j)=⟨g,off+j,none⟩:=by unfold Addr.add;split <;> simp_all
      rw [e]
      exact ((Bel.refl Wb).alloc _).c (hc j c hy)) (by rw [List.length_map];show 0+ys.length≤9;omega) (bv_one ys)
 rw [List.length_map] at hr
 refine ⟨_,hr,⟨rfl,rfl,rfl,by simp,fun i hi=>(setRow_other _ _ _ _ (by omega)).trans (Below.heap_alloc _ _ _ hi)⟩,by simp,?_⟩
 ·have h2:=setRow_heap (Wb.alloc (.cells z9 238)) Wb.heap.size z9 (z9.toList.take 0 ++ ys.map bv ++ z9.toList.drop (0+ys.length)).toArray 238 (0,0) hB
  have e:z9.toList.drop (0+ys.length)=zrow (9 - ys.length):=by
   have:z9.toList=zrow 9:=rfl
   rw [this,Nat.zero_add]
   unfold zrow
   rw [List.drop_replicate]
  rw [e] at h2
  rw [e]
  simpa [Blk] using h2
structure LaidM (W0 Wb:World) (b:Nat) (s:List UInt8) (k:Nat) (y:Int) (cs:Array Value) (V:World):Prop where
 left:Blk V (b+2) 3 #[.int .i64 y]
 out : ∃ A c,Blk V (b+1) 34 #[.slice A (outK s k).length c]∧V.ownsRow (b+6) 5 1 (.slice A (outK s k).length c) (outK s k).length ((outK s k).map bv)
 keep:BelS (fun j=>j ≠ b+1∧j ≠ b+2∧j<b+6) W0 V
 own:OwnS (fun j=>j ≠ b+1∧j ≠ b+2∧j<b+6) (W0.heap.size+2) Wb V
 others:KeepsFrom W0.heap.size Wb V
 arr:Blk V Wb.heap.size 238 cs
 high:b+6≤Wb.heap.size
theorem LaidM.start {W0 Wb w1:World} {b:Nat} {s:List UInt8} {k:Nat} {cs:Array Value} (h:LaidI W0 b s k Wb) (hb:Bel Wb w1) (hB:Blk w1 Wb.heap.size 238 cs) (h6:W0.heap.size=b+6):LaidM W0 Wb b s k (leftK s k) cs w1:=by
 obtain ⟨A,c,h1,h2⟩:=h.out
 refine ⟨h.left.below hb h.left.lt,⟨A,c,h1.below hb h1.lt,ownsRow_bel h2 hb⟩,h.keep.trans (BelS.of_bel hb),OwnS.of_bel hb,?_,hB,by have:=h.keep.size;omega⟩
 exact ⟨hb.size,fun j o _ hj ho=>(hb.block j (Array.getElem?_eq_some_iff.1 hj).1).trans hj⟩
theorem row_setArr {V:World} {base z n:Nat} {e t:TypeId} {v:Value} {xs:List Value} {g i:Nat} {cs:Array Value} {u:Value} (h:V.ownsRow base e z v n xs) (hB:Blk V g t cs) (hne:e ≠ t):(V.setCell ⟨g,i,none⟩ u).ownsRow base e z v n xs:=by
 refine ⟨h.1,?_⟩
 rcases h.2 with h3 | ⟨g',cap,cur,hv,hgb,hh,r⟩
 ·exact .inl h3
 ·refine .inr ⟨g',cap,cur,hv,hgb,(Below.heap_setCell _ _ _ _ (fun e'=>?_)).trans hh,r⟩
  exact Blk.ne_ (t:=e) hh hB hne e'
theorem LaidM.setLeft {W0 Wb V:World} {b:Nat} {s:List UInt8} {k:Nat} {y:Int} {cs:Array Value} (h:LaidM W0 Wb b s k y cs V) (h6:W0.heap.size=b+6) (z:Int):LaidM W0 Wb b s k z cs (V.setCell ⟨b+2,0,none⟩ (.int .i64 z)):=by
 obtain ⟨A,c,h1,h2⟩:=h.out
 have hh:=h.high
 refine ⟨h.left.set_ 0 _,⟨A,c,h1.far (by show b+1 ≠ b+2;omega) _,row_setArr h2 h.left (by decide)⟩,h.keep.setCell (by show ¬ (b+2 ≠ b+1∧b+2 ≠ b+2∧b+2<b+6);omega) _,⟨h.own.below.setCell (by show ¬ (b+2 ≠ b+1∧b+2 ≠ b+2∧b+2<b+6);omega) _⟩,?_,h.arr.far (by show Wb.heap.size ≠ b+2;omega) _,hh⟩
 exact h.others.trans ((KeepsOthers.setCell _ _ _).from _)
theorem LaidM.setArr {W0 Wb V:World} {b:Nat} {s:List UInt8} {k:Nat} {y:Int} {cs:Array Value} (h:LaidM W0 Wb b s k y cs V) (i:Nat) (u:Value):LaidM W0 Wb b s k y (cs.setIfInBounds i u) (V.setCell ⟨Wb.heap.size,i,none⟩ u):=by
 obtain ⟨A,c,h1,h2⟩:=h.out
 have hh:=h.high
 refine ⟨h.left.far (by show b+2 ≠ Wb.heap.size;omega) _,⟨A,c,h1.far (by show b+1 ≠ Wb.heap.size;omega) _,row_setArr h2 h.arr (by decide)⟩,h.keep.setCell (by show ¬ (Wb.heap.size ≠ b+1∧Wb.heap.size ≠ b+2∧Wb.heap.size<b+6);omega) _,⟨h.own.below.setCell (by show ¬ (Wb.heap.size ≠ b+1∧Wb.heap.size ≠ b+2∧Wb.heap.size<b+6);omega) _⟩,h.others.trans ((KeepsOthers.setCell _ _ _).from _),h.arr.set_ i u,hh⟩
theorem LaidM.drew {W0 Wb V:World} {b:Nat} {s:List UInt8} {k:Nat} {y:Int} {cs:Array Value} (h:LaidM W0 Wb b s k y cs V):LaidM W0 Wb b s k y cs V.drew :=
 ⟨h.left,h.out,h.keep.trans (BelS.of_bel (Bel.refl V).drew),h.own.trans (OwnS.of_bel (Bel.refl V).drew),⟨h.others.size,h.others.same⟩,h.arr,h.high⟩
theorem LaidM.end_ {W0 Wb V V':World} {b:Nat} {s:List UInt8} {k:Nat} {y:Int} {cs:Array Value} (h:LaidM W0 Wb b s k y cs V) (h6:W0.heap.size=b+6) {A A':Option Addr} {c c':Nat} {ys:List UInt8} (hys:outK s k ++ ys=outK s (k+1)) (hy:y=leftK s (k+1))
 (hown:V.ownsRow (b+6) 5 1 (.slice A (outK s k).length c) (outK s k).length ((outK s k).map bv)) (hown':V'.ownsRow (b+6) 5 1 (.slice A' ((outK s k).length+ys.length) c') ((outK s k).length+ys.length) ((outK s k).map bv ++ ys.map bv)) (hg:V.grownBy V' (Value.slice A (outK s k).length c).ownBlock) (hoc:Blk V (b+1) 34 #[.slice A (outK s k).length c])
 (hat:(Value.slice A' ((outK s k).length+ys.length) c').ownBlock=(Value.slice A (outK s k).length c).ownBlock ∨ (Value.slice A' ((outK s k).length+ys.length) c').ownBlock=some V.heap.size) :
 LaidI W0 b s (k+1) (V'.setCell ⟨b+1,0,none⟩ (.slice A' ((outK s k).length+ys.length) c'))∧OwnS (fun j=>j ≠ b+1∧j ≠ b+2∧j<b+6) (W0.heap.size+2) Wb (V'.setCell ⟨b+1,0,none⟩ (.slice A' ((outK s k).length+ys.length) c'))∧KeepsFrom W0.heap.size Wb (V'.setCell ⟨b+1,0,none⟩ (.slice A' ((outK s k).length+ys.length) c')):=by
 have hL:(outK s (k+1)).length=(outK s k).length+ys.length:=by rw [← hys,List.length_append]
 have hM:(outK s (k+1)).map bv=(outK s k).map bv ++ ys.map bv:=by rw [← hys,List.map_append]
 have hrow : ∀ j,(Value.slice A (outK s k).length c).ownBlock=some j→b+6≤j:=fun j e=>(hown.lt j e).1
 have hS1 : ¬ (b+1 ≠ b+1∧b+1 ≠ b+2∧b+1<b+6):=by omega
 have kB:Blk V' (b+1) 34 #[.slice A (outK s k).length c]:=hoc.grown hg (fun e=>by have:=hrow _ e.symm;omega)
 have kL:Blk V' (b+2) 3 #[.int .i64 y]:=h.left.grown hg (fun e=>by have:=hrow _ e.symm;omega)
 have hot:KeepsFrom W0.heap.size V V':=(KeepsOthers.of_grownBy hg (fun j o e ho=>by
  rcases hown.2 with ⟨e2,-⟩ | ⟨g,cap,cur,e2,-,hh,-⟩
  ·rw [e2] at e;simp [Value.ownBlock] at e
  ·rw [e2] at e
   have:g=j:=by simpa [Value.ownBlock] using e
   subst this
   rw [hh] at ho
   cases ho
   rfl)).from _
 refine ⟨⟨?_,⟨A',c',?_,?_⟩,(h.keep.grown hg (fun j e hk=>by have:=hrow j e;omega)).setCell hS1 _⟩,⟨(h.own.below.grown hg (fun j e hk=>by have:=hrow j e;omega)).setCell hS1 _⟩,(h.others.trans hot).trans ((KeepsOthers.setCell _ _ _).from _)⟩
 ·rw [← hy]
  exact kL.far (by show b+2 ≠ b+1;omega) _
 ·rw [hL]
  exact kB.set_ 0 _
 ·rw [hL,hM]
  exact row_setArr hown' kB (by decide)
theorem laid_done {w V:World} {b D:Nat} (hD:w.heap.size≤D) (hd:V.heap[D]? = some (.deferred (some []))) (hB:Bel w V) (hb:w.heap.size≤b) {u:Value} (ho:Blk V (b+1) 34 #[u]) (v:Value) (x:List UInt8) (n:Nat)
 (hown:V.ownsRow (b+6) 5 1 v n (x.map bv)) {A:Option Addr} {c:Nat} (hv:v = .slice A n c) (hn:x.length=n) :
 (V.setCell ⟨b+1,0,none⟩ v).heap[D]? = some (.deferred (some []))∧((V.setCell ⟨b+1,0,none⟩ v).putObj D (.deferred none)).cell? ⟨b+1,0,none⟩=some v∧GivesB x w (.returned v) ((V.setCell ⟨b+1,0,none⟩ v).putObj D (.deferred none)):=by
 have h1:=ho.set_ 0 v
 have d1:=heap_setCell_deferred ⟨b+1,0,none⟩ v hd
 have hDb:D ≠ b+1:=by
  intro e
  rw [e] at hd
  unfold Blk at ho
  rw [ho] at hd
  cases hd
 refine ⟨d1,cell_putDeferred (h1.cell 0) d1 (.deferred none),?_⟩
 subst hv hn
 refine ⟨A,c,rfl,?_,(hB.setCell (by show w.heap.size≤b+1;omega) _).putObj hD _⟩
 have hr2:=row_setArr (i:=0) (u:=.slice A x.length c) hown ho (by decide)
 refine ⟨hr2.1,?_⟩
 rcases hr2.2 with h3 | ⟨g,cap,cur,hv,hgb,hh,r⟩
 ·exact .inl h3
 ·refine .inr ⟨g,cap,cur,hv,by omega,(World.putObj_heap_other (fun e=>?_)).trans hh,r⟩
  rw [e] at hh
  rw [d1] at hh
  cases hh
set_option maxRecDepth 100000 in
set_option maxHeartbeats 4000000 in
theorem kyLaid_bytes (b:ByteArray) (hb:b.size≤200) (k0 n0 u0:Int) (w:World):Calls Tryz.prog 168 #[.agg #[.int .i64 k0,.int .i64 n0,.int .u64 u0,.string b]] w (GivesB (grp b.data.toList) w):=by
 have hbI:(b.size:Int)≤200:=by omega
 have hcv:=fun V:World=>Lib.run_convert_string_bytes (P:=Tryz.prog) V 9 34 5 b Tryz.underlying9 Tryz.underlying34 Tryz.underlying5
 have HLW:=Lib.hid (laid_start w b (.int .i64 k0) (.int .i64 n0) (.int .u64 u0) (by omega) _ rfl)
 refine calls_of_wp_marks 12 Tryz.func168 rfl ?_
 simp only [Tryz.ntmps168,List.size_toArray,List.length_cons,List.length_nil,Nat.reduceAdd,Nat.reduceSub,Array.replicate_succ,Array.replicate_zero,List.push_toArray,List.append_toArray,List.nil_append,List.cons_append]
 go_wp2_with fail
 refine (slChunk_at _ _ _ (w.heap.size+4) _ (by rw [Lib.bytesWorld_size];simp)).mono ?_
 rintro e0 W1 ⟨rfl,hW1⟩
 have HW:=Lib.hid hW1
 have hG:=grownCap_ge (((w.alloc (.cells #[.int .i64 k0,.int .i64 n0,.int .u64 u0,.string b] 64)).alloc (.cells #[.slice none 0 0] 34)).alloc (.cells #[.int .i64 b.size] 3)) b.size 0 5
 have hGm:=grownCap_le_maxLen (((w.alloc (.cells #[.int .i64 k0,.int .i64 n0,.int .u64 u0,.string b] 64)).alloc (.cells #[.slice none 0 0] 34)).alloc (.cells #[.int .i64 b.size] 3)) b.size 0 5 (by unfold maxLen;omega)
 generalize hcap:grownCap (((w.alloc (.cells #[.int .i64 k0,.int .i64 n0,.int .u64 u0,.string b] 64)).alloc (.cells #[.slice none 0 0] 34)).alloc (.cells #[.int .i64 b.size] 3)) b.size 0 5=cap at *
 have hLW:LaidW W1 w.heap.size b.data.toList cap:=by rw [← hW1];exact HLW.out cap
 have hBW:Bel w W1:=by
  rw [← hW1]
  exact Bel.alloc (Bel.alloc (Bel.then_ (Bel.alloc (Bel.alloc (Bel.alloc (Bel.refl w) _) _) _) (bytesWorld_bel _ _ _)) _) _
 have hsz:=hLW.size
 have hl:b.data.toList.length=b.size:=rfl
 generalize b.data.toList=s at *
 have hseq:=slChunkC_seq 11 (by omega) (w:=W1) (g:=w.heap.size+3) (n:=s.length) (cap:=cap) (B1:=w.heap.size+4) (B2:=w.heap.size+5) (fun j=>j ≠ w.heap.size+1∧j ≠ w.heap.size+2∧j<w.heap.size+6) (by omega) (by omega) hGm hLW.c4 hLW.c5 (by omega) (by omega)
 have hs200:s.length≤200:=by omega
 clear hW1 HW HLW hcv hcap hl
 have HLW:=Lib.hid hLW
 clear hLW
 go_wp2
 refine wp_seqf_round 12 (by omega) (gf:=204) (bd:=#[]) (lb:=#[.pointer (some ⟨w.heap.size+4,0,none⟩),.pointer (some ⟨w.heap.size+5,0,none⟩)]) rfl (enters_of Tryz.func204 (by kernel_rfl) rfl) hseq (by intro k hk;omega) (BelS.refl _ _) (fun x vs V hE=>by simp only at hE;rw [hE];rfl)
  (fun pre V=>LaidI W1 w.heap.size s pre.length V) (fun c pre V=>False) ?hI ?hIx ?hE HLW.out.start ?hround ?hdone ?hstop
 case hI=>exact LaidI.own W1 w.heap.size s _ (by omega)
 case hIx=>exact fun c pre A B row hs hg hr=>hs
 case hE=>exact fun _ _ _ _ hs _ _=>hs
 case hstop=>exact fun D c pre x rest V hD hxs hf=>hf.elim
 case hdone =>
  intro D V hD hi hdf
  have hnc:(List.range (nCh s.length)).length=nCh s.length:=List.length_range
  rw [hnc] at hi
  obtain ⟨A,c,hoB,hown⟩:=hi.out
  have hBV:Bel w V:=⟨hi.keep.os.trans hBW.os,hi.keep.tape.trans hBW.tape,hi.keep.output.trans hBW.output,Nat.le_trans hBW.size hi.keep.size,fun k hk=>(hi.keep.block k (by omega) (by omega)).trans (hBW.block k hk)⟩
  have o3:=hoB.cell 0
  have of3:=hoB.frozen 0
  simp only [List.getElem?_toArray,List.getElem?_cons_zero] at o3
  have hlt:=hoB.lt
  clear hseq
  by_cases h0:s.length=0
  ·have hs0:s=[]:=List.eq_nil_of_length_eq_zero h0
   subst hs0
   have e0:outK [] (nCh ([]:List UInt8).length)=[]:=outK_zero []
   rw [e0] at o3 hown hoB
   simp only [List.length_nil] at o3
   have hmk : ∀ W:World,(Instr.makeSlice 34 (.int .i64 9) (.int .i64 9)).run Tryz.prog W = .ok (.slice (some ⟨W.heap.size,0,none⟩) 9 9) (W.alloc (.cells (madeCells #[.int .u8 0] 9) 5)):=fun W=>make_bytes .i64 .i64 9 (by omega) W
   have hz9:madeCells #[.int .u8 0] 9=z9:=by kernel_rfl
   go_wp2
   have hDl:D<V.heap.size:=(Array.getElem?_eq_some_iff.1 hdf).1
   have d0:(V.alloc (.cells z9 5)).heap[D]? = some (.deferred (some [])):=(Below.heap_alloc _ _ _ hDl).trans hdf
   have hB9:=Blk.new V 5 z9
   have hoB2:=hoB.alloc (.cells z9 5)
   have hDw:w.heap.size≤D:=by omega
   have hdn:=laid_done (w:=w) (b:=w.heap.size) hDw d0 (hBV.alloc _) (by omega) hoB2 (.slice (some ⟨V.heap.size,0,none⟩) 9 9) (grp []) 9 (show (V.alloc (.cells z9 5)).ownsRow (w.heap.size+6) 5 1 (.slice (some ⟨V.heap.size,0,none⟩) 9 9) 9 ((grp []).map bv) from ⟨rfl,.inr ⟨V.heap.size,9,z9,rfl,by have:=hi.keep.size;omega,hB9,Nat.le_refl _,by unfold maxLen;omega,rfl,rfl⟩⟩) rfl rfl
   rw [World.setCell_alloc_past (hn:=by show w.heap.size+1<V.heap.size;omega)] at hdn
   exact leavesM_collected (D:=D) hdn.1 (leavesM_nil (v:=.slice (some ⟨V.heap.size,0,none⟩) 9 9) (by simp [results,Tryz.results168,go_sem,hdn.2.1]) hdn.2.2)
  ·have e0:outK s (nCh s.length)=grp s:=by unfold outK;rw [if_pos ⟨by omega,rfl⟩]
   rw [e0] at o3 hown hoB
   have hgl:=grp_len s
   have hne:(((grp s).length:Int) == 0)=false:=by rw [beq_eq_false_iff_ne];omega
   have hDw:w.heap.size≤D:=by omega
   have hdn:=laid_done (w:=w) (b:=w.heap.size) hDw hdf hBV (by omega) hoB (.slice A (grp s).length c) (grp s) (grp s).length hown rfl rfl
   rw [hgl] at hdn
   go_wp2
   exact leavesM_collected (D:=D) hdn.1 (leavesM_nil (v:=.slice A (9 * (grpQ s+1)) c) (by simp [results,Tryz.results168,go_sem,hdn.2.1]) hdn.2.2)
 case hround =>
  intro l x vs V hE
  simp only at hE
  subst hE
  gi_wp2
  refine ⟨(by first | rfl | trivial),fun l pre rest Wb hxs hl2 hlo hi hEb=>?_⟩
  obtain ⟨rfl,hk⟩:=range_pre hxs
  obtain ⟨m,hm⟩ : ∃ m,min 8 (s.length - 8 * pre.length)=m:=⟨_,rfl⟩
  have hm1 : 1≤m∧m≤8:=by unfold nCh at hk;omega
  have hyl:((s.drop (8 * pre.length)).take m).length=m:=by rw [List.length_take,List.length_drop];omega
  obtain ⟨w1,hcp,hb1,hs1,hB1⟩:=copy9 Wb (w.heap.size+3) (8 * pre.length) m ((s.drop (8 * pre.length)).take m) hyl hm1.2 (fun j c hj=>by
   have hj2:s[8 * pre.length+j]? = some c:=by
    have hlt:j<m:=by have:=(List.getElem?_eq_some_iff.1 hj).1;omega
    rw [List.getElem?_take,if_pos hlt,List.getElem?_drop] at hj
    exact hj
   exact hi.keep.cell (p:=⟨w.heap.size+3,_,none⟩) (by simp) (HLW.out.bytes _ _ hj2))
  have hch:chunkV (w.heap.size+3) s.length pre.length = .slice (some ⟨w.heap.size+3,8 * pre.length,none⟩) m m:=by unfold chunkV;rw [hm]
  rw [hch]
  have hM1:=LaidM.start hi hb1 hB1 hsz
  have l1:=hM1.left.cell 0
  have lf1:=hM1.left.frozen 0
  simp only [List.getElem?_toArray,List.getElem?_cons_zero] at l1
  have a8:w1.cell? ⟨Wb.heap.size,8,none⟩=some (.int .u8 0):=by
   rw [hB1.cell 8,List.getElem?_toArray,List.getElem?_append_right (by rw [List.length_map,hyl];exact hm1.2),List.length_map,hyl]
   unfold zrow
   rw [List.getElem?_replicate,if_pos (by omega)]
  have af8:=hB1.frozen 8
  have hsb:w.heap.size+2<Wb.heap.size:=by have:=hi.keep.size;omega
  obtain ⟨i0,hi0,hz0,hz1,hz2⟩:=info_parts infoU8
  by_cases hlast:pre.length+1=nCh s.length
  ·have hlk:leftK s pre.length=m:=by unfold leftK;unfold nCh at hlast;omega
   rw [hlk] at l1
   unfold z9 at hcp
   gi_wp2
   obtain ⟨ys9,hys9⟩ : ∃ ys9,ys9=(s.drop (8 * pre.length)).take m ++ zeros (8 - m) ++ [UInt8.ofNat m]:=⟨_,rfl⟩
   have hy9:ys9.length=9:=by rw [hys9];simp only [List.length_append,hyl];simp [zeros];omega
   have hys:outK s pre.length ++ ys9=outK s (pre.length+1):=by rw [hys9];exact outK_last hlast hm
   have hyl2:(0:Int)=((leftK s (pre.length+1):Nat):Int):=by unfold leftK;unfold nCh at hlast;omega
   have hM2:LaidM W1 Wb w.heap.size s pre.length 0 (ys9.map bv).toArray ((w1.setCell ⟨w.heap.size+1+1,0,none⟩ (.int .i64 0)).setCell ⟨Wb.heap.size,8,none⟩ (.int .u8 m)):=by
    have:=(hM1.setLeft hsz 0).setArr 8 (.int .u8 m)
    rw [arr9 _ m hyl hm1.2 (UInt8.ofNat m) (.int .u8 m) (by rw [bv_lit _ (by omega)])] at this
    rw [hys9]
    exact this
   generalize (w1.setCell ⟨w.heap.size+1+1,0,none⟩ (.int .i64 0)).setCell ⟨Wb.heap.size,8,none⟩ (.int .u8 m)=w2 at *
   refine wpIn_region_any (by kernel_rfl) ?_
   have hM3:=hM2.drew
   have hdr:({ w2 with drawn:=w2.drawn+1 } : World)=w2.drew:=rfl
   rw [hdr]
   generalize w2.drew=w3 at *
   clear hM2 hdr
   obtain ⟨A,c,hoB,hown⟩:=hM3.out
   have o3:=hoB.cell 0
   have of3:=hoB.frozen 0
   simp only [List.getElem?_toArray,List.getElem?_cons_zero] at o3
   have hl9:(ys9.map bv).length=9 * 1:=by rw [List.length_map,hy9]
   have hr9 : ∀ (j:Nat) (u:Value),(ys9.map bv)[j]? = some u→w3.cell? ((⟨Wb.heap.size,0,none⟩:Addr).add j)=some u:=fun j u hu=>by
    have e:(Addr.add ⟨Wb.heap.size,0,none⟩ j)=⟨Wb.heap.size,j,none⟩:=by unfold Addr.add;split <;> simp_all
    rw [e,hM3.arr.cell j]
    simpa using hu
   have hout9:(outK s pre.length).length≤1000:=outK_len s pre.length (by omega) (by omega)
   clear hseq l1 lf1 a8 af8 hcp hM1 hB1 hb1 hi
   refine wpAnyIn_ready (rs:=[0,1]) (by kernel_rfl) (by simp) ?_
   refine AllReadyIn.cons (o:=_) rfl (fun K1 hK1=>?_) (AllReadyIn.cons (o:=_) rfl (fun K2 hK2=>?_) AllReadyIn.nil)
   ·rw [if_pos (by kernel_rfl)]
    refine ⟨(by intro f hf;cases hf),?_⟩
    rw [Oper.semAt_plain _ _ _ (by intro c hc;cases hc)]
    go_simp
    refine hK1 _ _ ?_
    refine wpAnyIn_ready (rs:=[1]) (by kernel_rfl) (by simp) ?_
    refine AllReadyIn.cons (o:=_) rfl (fun K3 hK3=>?_) AllReadyIn.nil
    rw [if_pos (by kernel_rfl)]
    refine ⟨(by intro f hf;cases hf),?_⟩
    rw [Oper.semAt_plain _ _ _ (by intro c hc;cases hc)]
    go_simp
    refine hK3 _ _ ?_
    refine wpAnyIn_ready (rs:=[2]) (by kernel_rfl) (by simp) ?_
    refine AllReadyIn.cons (o:=_) rfl (fun K5 hK5=>?_) AllReadyIn.nil
    rw [if_pos (by kernel_rfl)]
    refine opIn_append_at _ (.tmp 28) (.tmp 29) 34 rfl (w.heap.size+6) 5 i0 _ 1 1 Tryz.underlying34 hi0 hz0 hz1 hz2 rfl (by omega) (.slice A (outK s pre.length).length c) _ _ rfl hown ⟨Wb.heap.size,0,none⟩ 9 9 _ rfl hl9 hr9 (bv_one _) (by unfold maxLen;omega) (by omega) (by have:=hM3.high;have:=hM3.others.size;omega) ?_
    intro v' w4 hown4 hg4 hat4
    obtain ⟨A4,c4,rfl⟩:=row_form hown4
    rw [← hy9] at hown4 hat4
    have hend:=LaidM.end_ hM3 hsz hys hyl2 hown hown4 hg4 hoB hat4
    have kB:Blk w4 (w.heap.size+1) 34 #[.slice A (outK s pre.length).length c]:=hoB.grown hg4 (fun e=>by have:=(hown.lt _ e.symm).1;omega)
    have k0:=kB.cell 0
    have kf:=kB.frozen 0
    simp only [List.getElem?_toArray,List.getElem?_cons_zero] at k0
    refine hK5 _ _ ?_
    refine wpAnyIn_ready (rs:=[3]) (by kernel_rfl) (by simp) ?_
    refine AllReadyIn.cons (o:=_) rfl (fun K6 hK6=>?_) AllReadyIn.nil
    rw [if_pos (by kernel_rfl)]
    refine ⟨(by intro f hf;cases hf),?_⟩
    rw [Oper.semAt_plain _ _ _ (by intro c hc;cases hc)]
    go_simp
    refine hK6 _ _ ?_
    refine wpAnyIn_done (by kernel_rfl) ?_ _
    simp only [Exit.inBlock,Exit.then]
    rw [hy9] at hend
    exact ⟨hend.2.2,hend.2.1,by show LaidI _ _ _ (pre ++ [pre.length]).length _;rw [List.length_append];exact hend.1⟩
   ·rw [if_pos (by kernel_rfl)]
    refine ⟨(by intro f hf;cases hf),?_⟩
    rw [Oper.semAt_plain _ _ _ (by intro c hc;cases hc)]
    go_simp
    refine hK2 _ _ ?_
    refine wpAnyIn_ready (rs:=[0]) (by kernel_rfl) (by simp) ?_
    refine AllReadyIn.cons (o:=_) rfl (fun K4 hK4=>?_) AllReadyIn.nil
    rw [if_pos (by kernel_rfl)]
    refine ⟨(by intro f hf;cases hf),?_⟩
    rw [Oper.semAt_plain _ _ _ (by intro c hc;cases hc)]
    go_simp
    refine hK4 _ _ ?_
    refine wpAnyIn_ready (rs:=[2]) (by kernel_rfl) (by simp) ?_
    refine AllReadyIn.cons (o:=_) rfl (fun K5 hK5=>?_) AllReadyIn.nil
    rw [if_pos (by kernel_rfl)]
    refine opIn_append_at _ (.tmp 28) (.tmp 29) 34 rfl (w.heap.size+6) 5 i0 _ 1 1 Tryz.underlying34 hi0 hz0 hz1 hz2 rfl (by omega) (.slice A (outK s pre.length).length c) _ _ rfl hown ⟨Wb.heap.size,0,none⟩ 9 9 _ rfl hl9 hr9 (bv_one _) (by unfold maxLen;omega) (by omega) (by have:=hM3.high;have:=hM3.others.size;omega) ?_
    intro v' w4 hown4 hg4 hat4
    obtain ⟨A4,c4,rfl⟩:=row_form hown4
    rw [← hy9] at hown4 hat4
    have hend:=LaidM.end_ hM3 hsz hys hyl2 hown hown4 hg4 hoB hat4
    have kB:Blk w4 (w.heap.size+1) 34 #[.slice A (outK s pre.length).length c]:=hoB.grown hg4 (fun e=>by have:=(hown.lt _ e.symm).1;omega)
    have k0:=kB.cell 0
    have kf:=kB.frozen 0
    simp only [List.getElem?_toArray,List.getElem?_cons_zero] at k0
    refine hK5 _ _ ?_
    refine wpAnyIn_ready (rs:=[3]) (by kernel_rfl) (by simp) ?_
    refine AllReadyIn.cons (o:=_) rfl (fun K6 hK6=>?_) AllReadyIn.nil
    rw [if_pos (by kernel_rfl)]
    refine ⟨(by intro f hf;cases hf),?_⟩
    rw [Oper.semAt_plain _ _ _ (by intro c hc;cases hc)]
    go_simp
    refine hK6 _ _ ?_
    refine wpAnyIn_done (by kernel_rfl) ?_ _
    simp only [Exit.inBlock,Exit.then]
    rw [hy9] at hend
    exact ⟨hend.2.2,hend.2.1,by show LaidI _ _ _ (pre ++ [pre.length]).length _;rw [List.length_append];exact hend.1⟩
  ·have hm8:m=8:=by unfold nCh at hlast hk;omega
   subst hm8
   have hlk:(leftK s pre.length:Int) - 8=(leftK s (pre.length+1):Nat):=by unfold leftK;unfold nCh at hlast hk;omega
   have hlu:((leftK s (pre.length+1):Nat):Int)≤200:=by unfold leftK;omega
   have hpos:(0:Int)<(leftK s (pre.length+1):Nat):=by unfold leftK;unfold nCh at hlast hk;omega
   unfold z9 at hcp
   gi_wp2
   obtain ⟨ys9,hys9⟩ : ∃ ys9,ys9=(s.drop (8 * pre.length)).take 8 ++ zeros (8 - 8) ++ [(9:UInt8)]:=⟨_,rfl⟩
   have hy9:ys9.length=9:=by rw [hys9];simp only [List.length_append,hyl];simp [zeros]
   have hys:outK s pre.length ++ ys9=outK s (pre.length+1):=by rw [hys9];exact outK_more hlast hk
   have hyl2:((leftK s (pre.length+1):Nat):Int)=((leftK s (pre.length+1):Nat):Int):=rfl
   have hM2:LaidM W1 Wb w.heap.size s pre.length (leftK s (pre.length+1):Nat) (ys9.map bv).toArray (((w1.setCell ⟨w.heap.size+1+1,0,none⟩ (.int .i64 (leftK s (pre.length+1):Nat))).setCell ⟨Wb.heap.size,8,none⟩ (.int .u8 8)).setCell ⟨Wb.heap.size,8,none⟩ (.int .u8 9)):=by
    have:=((hM1.setLeft hsz (leftK s (pre.length+1):Nat)).setArr 8 (.int .u8 8)).setArr 8 (.int .u8 9)
    rw [Array.setIfInBounds_setIfInBounds,arr9 _ 8 hyl (by omega) 9 (.int .u8 9) rfl] at this
    rw [hys9]
    exact this
   generalize ((w1.setCell ⟨w.heap.size+1+1,0,none⟩ (.int .i64 (leftK s (pre.length+1):Nat))).setCell ⟨Wb.heap.size,8,none⟩ (.int .u8 8)).setCell ⟨Wb.heap.size,8,none⟩ (.int .u8 9)=w2 at *
   refine wpIn_region_any (by kernel_rfl) ?_
   have hM3:=hM2.drew
   have hdr:({ w2 with drawn:=w2.drawn+1 } : World)=w2.drew:=rfl
   rw [hdr]
   generalize w2.drew=w3 at *
   clear hM2 hdr
   obtain ⟨A,c,hoB,hown⟩:=hM3.out
   have o3:=hoB.cell 0
   have of3:=hoB.frozen 0
   simp only [List.getElem?_toArray,List.getElem?_cons_zero] at o3
   have hl9:(ys9.map bv).length=9 * 1:=by rw [List.length_map,hy9]
   have hr9 : ∀ (j:Nat) (u:Value),(ys9.map bv)[j]? = some u→w3.cell? ((⟨Wb.heap.size,0,none⟩:Addr).add j)=some u:=fun j u hu=>by
    have e:(Addr.add ⟨Wb.heap.size,0,none⟩ j)=⟨Wb.heap.size,j,none⟩:=by unfold Addr.add;split <;> simp_all
    rw [e,hM3.arr.cell j]
    simpa using hu
   have hout9:(outK s pre.length).length≤1000:=outK_len s pre.length (by omega) (by omega)
   clear hseq l1 lf1 a8 af8 hcp hM1 hB1 hb1 hi
   refine wpAnyIn_ready (rs:=[0,1]) (by kernel_rfl) (by simp) ?_
   refine AllReadyIn.cons (o:=_) rfl (fun K1 hK1=>?_) (AllReadyIn.cons (o:=_) rfl (fun K2 hK2=>?_) AllReadyIn.nil)
   ·rw [if_pos (by kernel_rfl)]
    refine ⟨(by intro f hf;cases hf),?_⟩
    rw [Oper.semAt_plain _ _ _ (by intro c hc;cases hc)]
    go_simp
    refine hK1 _ _ ?_
    refine wpAnyIn_ready (rs:=[1]) (by kernel_rfl) (by simp) ?_
    refine AllReadyIn.cons (o:=_) rfl (fun K3 hK3=>?_) AllReadyIn.nil
    rw [if_pos (by kernel_rfl)]
    refine ⟨(by intro f hf;cases hf),?_⟩
    rw [Oper.semAt_plain _ _ _ (by intro c hc;cases hc)]
    go_simp
    refine hK3 _ _ ?_
    refine wpAnyIn_ready (rs:=[2]) (by kernel_rfl) (by simp) ?_
    refine AllReadyIn.cons (o:=_) rfl (fun K5 hK5=>?_) AllReadyIn.nil
    rw [if_pos (by kernel_rfl)]
    refine opIn_append_at _ (.tmp 28) (.tmp 29) 34 rfl (w.heap.size+6) 5 i0 _ 1 1 Tryz.underlying34 hi0 hz0 hz1 hz2 rfl (by omega) (.slice A (outK s pre.length).length c) _ _ rfl hown ⟨Wb.heap.size,0,none⟩ 9 9 _ rfl hl9 hr9 (bv_one _) (by unfold maxLen;omega) (by omega) (by have:=hM3.high;have:=hM3.others.size;omega) ?_
    intro v' w4 hown4 hg4 hat4
    obtain ⟨A4,c4,rfl⟩:=row_form hown4
    rw [← hy9] at hown4 hat4
    have hend:=LaidM.end_ hM3 hsz hys hyl2 hown hown4 hg4 hoB hat4
    have kB:Blk w4 (w.heap.size+1) 34 #[.slice A (outK s pre.length).length c]:=hoB.grown hg4 (fun e=>by have:=(hown.lt _ e.symm).1;omega)
    have k0:=kB.cell 0
    have kf:=kB.frozen 0
    simp only [List.getElem?_toArray,List.getElem?_cons_zero] at k0
    refine hK5 _ _ ?_
    refine wpAnyIn_ready (rs:=[3]) (by kernel_rfl) (by simp) ?_
    refine AllReadyIn.cons (o:=_) rfl (fun K6 hK6=>?_) AllReadyIn.nil
    rw [if_pos (by kernel_rfl)]
    refine ⟨(by intro f hf;cases hf),?_⟩
    rw [Oper.semAt_plain _ _ _ (by intro c hc;cases hc)]
    go_simp
    refine hK6 _ _ ?_
    refine wpAnyIn_done (by kernel_rfl) ?_ _
    simp only [Exit.inBlock,Exit.then]
    rw [hy9] at hend
    exact ⟨hend.2.2,hend.2.1,by show LaidI _ _ _ (pre ++ [pre.length]).length _;rw [List.length_append];exact hend.1⟩
   ·rw [if_pos (by kernel_rfl)]
    refine ⟨(by intro f hf;cases hf),?_⟩
    rw [Oper.semAt_plain _ _ _ (by intro c hc;cases hc)]
    go_simp
    refine hK2 _ _ ?_
    refine wpAnyIn_ready (rs:=[0]) (by kernel_rfl) (by simp) ?_
    refine AllReadyIn.cons (o:=_) rfl (fun K4 hK4=>?_) AllReadyIn.nil
    rw [if_pos (by kernel_rfl)]
    refine ⟨(by intro f hf;cases hf),?_⟩
    rw [Oper.semAt_plain _ _ _ (by intro c hc;cases hc)]
    go_simp
    refine hK4 _ _ ?_
    refine wpAnyIn_ready (rs:=[2]) (by kernel_rfl) (by simp) ?_
    refine AllReadyIn.cons (o:=_) rfl (fun K5 hK5=>?_) AllReadyIn.nil
    rw [if_pos (by kernel_rfl)]
    refine opIn_append_at _ (.tmp 28) (.tmp 29) 34 rfl (w.heap.size+6) 5 i0 _ 1 1 Tryz.underlying34 hi0 hz0 hz1 hz2 rfl (by omega) (.slice A (outK s pre.length).length c) _ _ rfl hown ⟨Wb.heap.size,0,none⟩ 9 9 _ rfl hl9 hr9 (bv_one _) (by unfold maxLen;omega) (by omega) (by have:=hM3.high;have:=hM3.others.size;omega) ?_
    intro v' w4 hown4 hg4 hat4
    obtain ⟨A4,c4,rfl⟩:=row_form hown4
    rw [← hy9] at hown4 hat4
    have hend:=LaidM.end_ hM3 hsz hys hyl2 hown hown4 hg4 hoB hat4
    have kB:Blk w4 (w.heap.size+1) 34 #[.slice A (outK s pre.length).length c]:=hoB.grown hg4 (fun e=>by have:=(hown.lt _ e.symm).1;omega)
    have k0:=kB.cell 0
    have kf:=kB.frozen 0
    simp only [List.getElem?_toArray,List.getElem?_cons_zero] at k0
    refine hK5 _ _ ?_
    refine wpAnyIn_ready (rs:=[3]) (by kernel_rfl) (by simp) ?_
    refine AllReadyIn.cons (o:=_) rfl (fun K6 hK6=>?_) AllReadyIn.nil
    rw [if_pos (by kernel_rfl)]
    refine ⟨(by intro f hf;cases hf),?_⟩
    rw [Oper.semAt_plain _ _ _ (by intro c hc;cases hc)]
    go_simp
    refine hK6 _ _ ?_
    refine wpAnyIn_done (by kernel_rfl) ?_ _
    simp only [Exit.inBlock,Exit.then]
    rw [hy9] at hend
    exact ⟨hend.2.2,hend.2.1,by show LaidI _ _ _ (pre ++ [pre.length]).length _;rw [List.length_append];exact hend.1⟩
end
end Go.Proofs.YtnajjhgbombboaaGreatDoor
