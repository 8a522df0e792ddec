/-
  Texts behind the statement: part 7.
-/
import Derived.Test.YtnajjhgbombboaaGreatDoorP6
import Derived.Deep.OwnRows
import Derived.Lib.ConvBytes
set_option linter.unusedVariables false
set_option linter.unusedSimpArgs false
namespace Go.Proofs.YtnajjhgbombboaaGreatDoor
section
open Go.RowKit Go.Shelf Go.Lib
attribute [local go_sem] Oper.semAt_some
def ColsAt (w:World) (v:Value) (l:List Col):Prop:=∃ A c,v = .slice A l.length c∧l.length≤c∧c≤maxLen∧(0<l.length → ∃ b off,A=some ⟨b,off,none⟩ ∧ ∀ i (x:Col),l[i]? = some x →
 w.cell? ⟨b,off+i * 4,none⟩=some (.string x.name)∧w.cell? ⟨b,off+i * 4+1,none⟩=some (.int .i64 x.t)∧w.cell? ⟨b,off+i * 4+2,none⟩=some (.int .i64 x.z)∧w.cell? ⟨b,off+i * 4+3,none⟩=some (.bool x.null))
theorem ColsAt.bel {w w':World} {v:Value} {l:List Col} (h:ColsAt w v l) (hb:Bel w w'):ColsAt w' v l:=by
 obtain ⟨A,c,e,hc,hm,h⟩:=h
 exact ⟨A,c,e,hc,hm,fun hl=>by obtain ⟨b,off,ea,hi⟩:=h hl;exact ⟨b,off,ea,fun i x hx=>⟨hb.c (hi i x hx).1,hb.c (hi i x hx).2.1,hb.c (hi i x hx).2.2.1,hb.c (hi i x hx).2.2.2⟩⟩⟩
theorem ColsAt.take {w:World} {A:Option Addr} {c:Nat} {l:List Col} (h:ColsAt w (.slice A l.length c) l) (k:Nat) (hk:k≤l.length):ColsAt w (.slice A k c) (l.take k):=by
 obtain ⟨A',c',e,hc,hm,h⟩:=h
 cases e
 have e:(l.take k).length=k:=by rw [List.length_take];omega
 refine ⟨A,c,by rw [e],by omega,hm,fun hl=>?_⟩
 obtain ⟨b,off,ea,hi⟩:=h (by omega)
 exact ⟨b,off,ea,fun i n hn=>hi i n (by
  have hlt:=(List.getElem?_eq_some_iff.1 hn).1
  rw [List.getElem?_take,if_pos (by omega)] at hn
  exact hn)⟩
def ListsAt (w:World) (v:Value) (L:List (List Int)):Prop:=∃ A c,v = .slice A L.length c∧L.length≤c∧c≤maxLen∧(0<L.length → ∃ b off,A=some ⟨b,off,none⟩ ∧ ∀ i l,L[i]? = some l → ∃ u,w.cell? ⟨b,off+i,none⟩=some u∧IntsAt w u l)
theorem ListsAt.bel {w w':World} {v:Value} {L:List (List Int)} (h:ListsAt w v L) (hb:Bel w w'):ListsAt w' v L:=by
 obtain ⟨A,c,e,hc,hm,h⟩:=h
 exact ⟨A,c,e,hc,hm,fun hl=>by obtain ⟨b,off,ea,hi⟩:=h hl;exact ⟨b,off,ea,fun i x hx=>by obtain ⟨u,h1,h2⟩:=hi i x hx;exact ⟨u,hb.c h1,h2.bel hb⟩⟩⟩
set_option maxHeartbeats 2000000 in
theorem slIndexFuncInt_any (g:Nat) (lb:Array Value) (eg : ∀ args w,(callFunc g args).run Tryz.prog w = .ok (.enter g args) w) (p:Int→Bool) (v:Value) (l:List Int) (w:World) (h:IntsAt w v l)
 (hp : ∀ W,Bel w W → ∀ x ∈ l,Calls Tryz.prog g (#[.int .i64 x] ++ lb) W fun e w'=>e = .returned (.bool (p x))∧Bel W w') :
 Calls Tryz.prog 196 #[v,.func (.func g) #[] lb] w fun e w'=>(∃ i:Int,e = .returned (.int .i64 i)∧(0≤i ↔ l.any p=true))∧Bel w w':=by
 have HV:=Lib.hid h
 obtain ⟨A,c,rfl,hcl,hm,hr⟩:=h
 have HP:=Lib.hid hp
 have hlI:(l.length:Int)≤9223372036854775807:=by unfold maxLen at hm;omega
 have HR:=Lib.hid hr
 clear hr hm hp
 go_enter Tryz.func196,Tryz.ntmps196
 go_wp2
 go_loopw [8] (fun i wr=>∃ k:Nat,k≤l.length∧i = .int .i64 k∧Hid (Bel w wr)∧Hid ((l.take k).any p=false)) (fun i _=>l.length - (intOf i).toNat)
 case atStart=>exact ⟨0,Nat.zero_le _,rfl,Bel.refl w,by show _=_;simp⟩
 case round =>
  obtain ⟨k,hk,rfl,HB,HT⟩:=hrel
  by_cases hlt:k<l.length
  ·obtain ⟨y,hy⟩ : ∃ y,l[k]? = some y:=⟨_,List.getElem?_eq_getElem hlt⟩
   obtain ⟨b,off,rfl,hi⟩:=HR.out (by omega)
   have hc1:=HB.out.c (hi k y hy)
   have hkI:(k:Int)<l.length:=by omega
   have hmem:y ∈ l:=List.mem_of_getElem? hy
   have HC:=Lib.hid (HP.out wr HB.out y hmem)
   have HNX:Hid (p y=false→(l.take (k+1)).any p=false):=fun e=>by
    rw [List.take_add_one,hy,List.any_append,HT.out]
    simp [e]
   have HYES:Hid (p y=true→l.any p=true):=fun e=>List.any_eq_true.2 ⟨y,hmem,e⟩
   clear hi hy hmem
   cases hpy:p y with
   | true =>
     rw [hpy] at HC HYES
     clear hpy
     go_wp2_with (go_at_fn g;refine HC.out.mono ?_;rintro e w4 ⟨rfl,hb4⟩)
     go_ret
     exact ⟨⟨(k:Int),rfl,by constructor <;> intro _ <;> first | exact HYES.out rfl | exact HYES.out trivial | omega⟩,HB.out.then_ hb4⟩
   | false =>
     rw [hpy] at HC HNX
     clear hpy
     go_wp2_with (go_at_fn g;refine HC.out.mono ?_;rintro e w4 ⟨rfl,hb4⟩)
     go_roundw
     case rel=>exact ⟨k+1,by omega,by go_num,HB.out.then_ hb4,by first | exact HNX.out rfl | exact HNX.out trivial⟩
     case measure=>simp [intOf];omega
  ·obtain rfl:k=l.length:=by omega
   have HN:Hid (l.any p=false):=by show _=_;have:=HT.out;rwa [List.take_length] at this
   clear HT hlt hk
   go_wp2
   go_ret
   exact ⟨⟨-1,rfl,by constructor <;> intro h <;> first | (rw [HN.out] at h;cases h) | (exfalso;omega)⟩,HB.out⟩
theorem slContainsFuncInt_any (g:Nat) (lb:Array Value) (eg : ∀ args w,(callFunc g args).run Tryz.prog w = .ok (.enter g args) w) (p:Int→Bool) (v:Value) (l:List (Int)) (w:World) (h:IntsAt w v l)
 (hp : ∀ W,Bel w W → ∀ x ∈ l,Calls Tryz.prog g (#[.int .i64 x] ++ lb) W fun e w'=>e = .returned (.bool (p x))∧Bel W w') :
 Calls Tryz.prog 180 #[v,.func (.func g) #[] lb] w fun e w'=>e = .returned (.bool (l.any p))∧Bel w w':=by
 have HI:=Lib.hid (slIndexFuncInt_any g lb eg p v l w h hp)
 obtain ⟨A,c,rfl,-⟩:=h
 obtain ⟨R,hR⟩ : ∃ R,R=l.any p:=⟨_,rfl⟩
 rw [← hR]
 have HR:=Lib.hid hR
 clear hR hp
 go_enter Tryz.func180,Tryz.ntmps180
 go_wp2_with fail
 refine HI.out.mono ?_
 rintro e w' ⟨⟨i,rfl,hi⟩,hb⟩
 have hd:l.any p=decide (0≤i):=by cases h:l.any p <;> simp [h] at hi ⊢ <;> omega
 have HRD:Hid (R=decide (0≤i)):=by show _=_;rw [HR.out,hd]
 have HB:=Lib.hid hb
 clear hi hd HI hb
 go_wp2
 go_ret
 exact ⟨by rw [HRD.out];rfl,HB.out⟩
set_option maxHeartbeats 2000000 in
theorem slIndexFuncInts_any (g:Nat) (lb:Array Value) (eg : ∀ args w,(callFunc g args).run Tryz.prog w = .ok (.enter g args) w) (p:List Int→Bool) (v:Value) (l:List (List Int)) (w:World) (h:ListsAt w v l)
 (hp : ∀ W,Bel w W → ∀ x ∈ l,∀ u,IntsAt W u x→Calls Tryz.prog g (#[u] ++ lb) W fun e w'=>e = .returned (.bool (p x))∧Bel W w') :
 Calls Tryz.prog 197 #[v,.func (.func g) #[] lb] w fun e w'=>(∃ i:Int,e = .returned (.int .i64 i)∧(0≤i ↔ l.any p=true))∧Bel w w':=by
 have HV:=Lib.hid h
 obtain ⟨A,c,rfl,hcl,hm,hr⟩:=h
 have HP:=Lib.hid hp
 have hlI:(l.length:Int)≤9223372036854775807:=by unfold maxLen at hm;omega
 have HR:=Lib.hid hr
 clear hr hm hp
 go_enter Tryz.func197,Tryz.ntmps197
 go_wp2
 go_loopw [8] (fun i wr=>∃ k:Nat,k≤l.length∧i = .int .i64 k∧Hid (Bel w wr)∧Hid ((l.take k).any p=false)) (fun i _=>l.length - (intOf i).toNat)
 case atStart=>exact ⟨0,Nat.zero_le _,rfl,Bel.refl w,by show _=_;simp⟩
 case round =>
  obtain ⟨k,hk,rfl,HB,HT⟩:=hrel
  by_cases hlt:k<l.length
  ·obtain ⟨y,hy⟩ : ∃ y,l[k]? = some y:=⟨_,List.getElem?_eq_getElem hlt⟩
   obtain ⟨b,off,rfl,hi⟩:=HR.out (by omega)
   obtain ⟨u,hc0,hu⟩:=hi k y hy
   have hc1:=HB.out.c hc0
   have hkI:(k:Int)<l.length:=by omega
   have hmem:y ∈ l:=List.mem_of_getElem? hy
   have HC:=Lib.hid (HP.out wr HB.out y hmem u (hu.bel HB.out))
   have HNX:Hid (p y=false→(l.take (k+1)).any p=false):=fun e=>by
    rw [List.take_add_one,hy,List.any_append,HT.out]
    simp [e]
   have HYES:Hid (p y=true→l.any p=true):=fun e=>List.any_eq_true.2 ⟨y,hmem,e⟩
   clear hi hy hmem hu hc0
   cases hpy:p y with
   | true =>
     rw [hpy] at HC HYES
     clear hpy
     go_wp2_with (go_at_fn g;refine HC.out.mono ?_;rintro e w4 ⟨rfl,hb4⟩)
     go_ret
     exact ⟨⟨(k:Int),rfl,by constructor <;> intro _ <;> first | exact HYES.out rfl | exact HYES.out trivial | omega⟩,HB.out.then_ hb4⟩
   | false =>
     rw [hpy] at HC HNX
     clear hpy
     go_wp2_with (go_at_fn g;refine HC.out.mono ?_;rintro e w4 ⟨rfl,hb4⟩)
     go_roundw
     case rel=>exact ⟨k+1,by omega,by go_num,HB.out.then_ hb4,by first | exact HNX.out rfl | exact HNX.out trivial⟩
     case measure=>simp [intOf];omega
  ·obtain rfl:k=l.length:=by omega
   have HN:Hid (l.any p=false):=by show _=_;have:=HT.out;rwa [List.take_length] at this
   clear HT hlt hk
   go_wp2
   go_ret
   exact ⟨⟨-1,rfl,by constructor <;> intro h <;> first | (rw [HN.out] at h;cases h) | (exfalso;omega)⟩,HB.out⟩
theorem slContainsFuncInts_any (g:Nat) (lb:Array Value) (eg : ∀ args w,(callFunc g args).run Tryz.prog w = .ok (.enter g args) w) (p:List Int→Bool) (v:Value) (l:List (List Int)) (w:World) (h:ListsAt w v l)
 (hp : ∀ W,Bel w W → ∀ x ∈ l,∀ u,IntsAt W u x→Calls Tryz.prog g (#[u] ++ lb) W fun e w'=>e = .returned (.bool (p x))∧Bel W w') :
 Calls Tryz.prog 181 #[v,.func (.func g) #[] lb] w fun e w'=>e = .returned (.bool (l.any p))∧Bel w w':=by
 have HI:=Lib.hid (slIndexFuncInts_any g lb eg p v l w h hp)
 obtain ⟨A,c,rfl,-⟩:=h
 obtain ⟨R,hR⟩ : ∃ R,R=l.any p:=⟨_,rfl⟩
 rw [← hR]
 have HR:=Lib.hid hR
 clear hR hp
 go_enter Tryz.func181,Tryz.ntmps181
 go_wp2_with fail
 refine HI.out.mono ?_
 rintro e w' ⟨⟨i,rfl,hi⟩,hb⟩
 have hd:l.any p=decide (0≤i):=by cases h:l.any p <;> simp [h] at hi ⊢ <;> omega
 have HRD:Hid (R=decide (0≤i)):=by show _=_;rw [HR.out,hd]
 have HB:=Lib.hid hb
 clear hi hd HI hb
 go_wp2
 go_ret
 exact ⟨by rw [HRD.out];rfl,HB.out⟩
set_option maxHeartbeats 2000000 in
theorem slIndexFuncCol_any (g:Nat) (lb:Array Value) (eg : ∀ args w,(callFunc g args).run Tryz.prog w = .ok (.enter g args) w) (p:Col→Bool) (v:Value) (l:List Col) (w:World) (h:ColsAt w v l)
 (hp : ∀ W,Bel w W → ∀ x ∈ l,Calls Tryz.prog g (#[x.v] ++ lb) W fun e w'=>e = .returned (.bool (p x))∧Bel W w') :
 Calls Tryz.prog 195 #[v,.func (.func g) #[] lb] w fun e w'=>(∃ i:Int,e = .returned (.int .i64 i)∧(0≤i ↔ l.any p=true))∧Bel w w':=by
 have HV:=Lib.hid h
 obtain ⟨A,c,rfl,hcl,hm,hr⟩:=h
 have HP:=Lib.hid hp
 have hlI:(l.length:Int)≤9223372036854775807:=by unfold maxLen at hm;omega
 have HR:=Lib.hid hr
 clear hr hm hp
 go_enter Tryz.func195,Tryz.ntmps195
 go_wp2
 go_loopw [8] (fun i wr=>∃ k:Nat,k≤l.length∧i = .int .i64 k∧Hid (Bel w wr)∧Hid ((l.take k).any p=false)) (fun i _=>l.length - (intOf i).toNat)
 case atStart=>exact ⟨0,Nat.zero_le _,rfl,Bel.refl w,by show _=_;simp⟩
 case round =>
  obtain ⟨k,hk,rfl,HB,HT⟩:=hrel
  by_cases hlt:k<l.length
  ·obtain ⟨y,hy⟩ : ∃ y,l[k]? = some y:=⟨_,List.getElem?_eq_getElem hlt⟩
   obtain ⟨b,off,rfl,hi⟩:=HR.out (by omega)
   obtain ⟨q0,q1,q2,q3⟩:=hi k y hy
   have hc0:=HB.out.c q0
   have hc1:=HB.out.c q1
   have hc2:=HB.out.c q2
   have hc3:=HB.out.c q3
   have hkI:(k:Int)<l.length:=by omega
   have hmem:y ∈ l:=List.mem_of_getElem? hy
   have HC:=Lib.hid (HP.out wr HB.out y hmem)
   have HNX:Hid (p y=false→(l.take (k+1)).any p=false):=fun e=>by
    rw [List.take_add_one,hy,List.any_append,HT.out]
    simp [e]
   have HYES:Hid (p y=true→l.any p=true):=fun e=>List.any_eq_true.2 ⟨y,hmem,e⟩
   clear hi hy hmem q0 q1 q2 q3
   cases hpy:p y with
   | true =>
     rw [hpy] at HC HYES
     clear hpy
     go_wp2_with (go_at_fn g;refine HC.out.mono ?_;rintro e w4 ⟨rfl,hb4⟩)
     go_ret
     exact ⟨⟨(k:Int),rfl,by constructor <;> intro _ <;> first | exact HYES.out rfl | exact HYES.out trivial | omega⟩,HB.out.then_ hb4⟩
   | false =>
     rw [hpy] at HC HNX
     clear hpy
     go_wp2_with (go_at_fn g;refine HC.out.mono ?_;rintro e w4 ⟨rfl,hb4⟩)
     go_roundw
     case rel=>exact ⟨k+1,by omega,by go_num,HB.out.then_ hb4,by first | exact HNX.out rfl | exact HNX.out trivial⟩
     case measure=>simp [intOf];omega
  ·obtain rfl:k=l.length:=by omega
   have HN:Hid (l.any p=false):=by show _=_;have:=HT.out;rwa [List.take_length] at this
   clear HT hlt hk
   go_wp2
   go_ret
   exact ⟨⟨-1,rfl,by constructor <;> intro h <;> first | (rw [HN.out] at h;cases h) | (exfalso;omega)⟩,HB.out⟩
theorem slContainsFuncCol_any (g:Nat) (lb:Array Value) (eg : ∀ args w,(callFunc g args).run Tryz.prog w = .ok (.enter g args) w) (p:Col→Bool) (v:Value) (l:List (Col)) (w:World) (h:ColsAt w v l)
 (hp : ∀ W,Bel w W → ∀ x ∈ l,Calls Tryz.prog g (#[x.v] ++ lb) W fun e w'=>e = .returned (.bool (p x))∧Bel W w') :
 Calls Tryz.prog 177 #[v,.func (.func g) #[] lb] w fun e w'=>e = .returned (.bool (l.any p))∧Bel w w':=by
 have HI:=Lib.hid (slIndexFuncCol_any g lb eg p v l w h hp)
 obtain ⟨A,c,rfl,-⟩:=h
 obtain ⟨R,hR⟩ : ∃ R,R=l.any p:=⟨_,rfl⟩
 rw [← hR]
 have HR:=Lib.hid hR
 clear hR hp
 go_enter Tryz.func177,Tryz.ntmps177
 go_wp2_with fail
 refine HI.out.mono ?_
 rintro e w' ⟨⟨i,rfl,hi⟩,hb⟩
 have hd:l.any p=decide (0≤i):=by cases h:l.any p <;> simp [h] at hi ⊢ <;> omega
 have HRD:Hid (R=decide (0≤i)):=by show _=_;rw [HR.out,hd]
 have HB:=Lib.hid hb
 clear hi hd HI hb
 go_wp2
 go_ret
 exact ⟨by rw [HRD.out];rfl,HB.out⟩
end
section
open Go.RowKit Go.Shelf Go.Lib
attribute [local go_sem] Oper.semAt_some
theorem str_eq (a b:ByteArray) (w:World):(binOp .eql 9 (.string a) (.string b)).run Tryz.prog w = .ok (.bool (decide (a=b))) w:=by
 go_simp
 by_cases h:a=b
 ·simp [h]
 ·simp [h,bytes_eq_iff]
theorem str_beq (a b:ByteArray):(a.toList == b.toList)=decide (a=b):=by by_cases h:a=b <;> simp [h,bytes_eq_iff]
theorem lookCa_any (o:Col) (nm:ByteArray) (bc:Nat) (w:World) (h:w.cell? ⟨bc,0,none⟩=some (.string nm)):Calls Tryz.prog 178 #[o.v,.pointer (some ⟨bc,0,none⟩)] w fun e w'=>e = .returned (.bool (decide (o.name=nm)))∧Bel w w':=by
 obtain ⟨name,t,z,null⟩:=o
 have hlt:=World.block_lt_of_cell? (w:=w) (a:=⟨bc,0,none⟩) h
 have hne:w.heap.size ≠ bc:=by simp at hlt;omega
 have hse:=fun W=>str_eq name nm W
 unfold Col.v
 dsimp only
 go_enter Tryz.func178,Tryz.ntmps178
 go_wp2
 go_ret
 exact ⟨congrArg (fun x=>Ending.returned (Value.bool x)) (str_beq name nm),by (repeat (first | exact Below.refl _ _ | assumption | exact Bel.refl _ | refine Bel.alloc ?_ _ | refine Bel.drew ?_ | refine Bel.drewN ?_ _ | refine Bel.then_ ?_ (by assumption) | refine Bel.setCell ?_ (by first | (simp;done) | (simp;omega)) _))⟩
theorem lookCb_any (vc:Value) (cols:List Col) (i:Nat) (x:Col) (hx:cols[i]? = some x) (bl:Nat) (w:World) (h:w.cell? ⟨bl,0,none⟩=some vc) (hv:ColsAt w vc cols):Calls Tryz.prog 179 #[.int .i64 i,.pointer (some ⟨bl,0,none⟩)] w fun e w'=>e = .returned (.bool x.null)∧Bel w w':=by
 obtain ⟨A,c,rfl,hcl,hm,hr⟩:=hv
 have hlt:=(List.getElem?_eq_some_iff.1 hx).1
 obtain ⟨b,off,rfl,hi⟩:=hr (by omega)
 obtain ⟨q0,q1,q2,q3⟩:=hi i x hx
 have hiI:(i:Int)<cols.length:=by omega
 have hlI:(cols.length:Int)≤9223372036854775807:=by unfold maxLen at hm;omega
 clear hi hr hx
 go_enter Tryz.func179,Tryz.ntmps179
 go_wp2
 go_ret
 exact ⟨by first | rfl | trivial,by (repeat (first | exact Below.refl _ _ | assumption | exact Bel.refl _ | refine Bel.alloc ?_ _ | refine Bel.drew ?_ | refine Bel.drewN ?_ _ | refine Bel.then_ ?_ (by assumption) | refine Bel.setCell ?_ (by first | (simp;done) | (simp;omega)) _))⟩
theorem lookCc_any (Ac:Option Addr) (many cc:Nat) (hmany:many≤maxLen) (vk vu v:Value) (l:List Int) (bl:Nat) (w:World) (h0:w.cell? ⟨bl,0,none⟩=some (.slice Ac many cc)) (h1:w.cell? ⟨bl,1,none⟩=some vk) (h2:w.cell? ⟨bl,2,none⟩=some vu) (h:IntsAt w v l):Calls Tryz.prog 182 #[v,.pointer (some ⟨bl,0,none⟩)] w fun e w'=>e = .returned (.bool (!setB l many))∧Bel w w':=by
 have HS:=Lib.hid (lookset_any Ac many cc hmany vk vu v l w h)
 obtain ⟨A,c,rfl,-⟩:=h
 go_enter Tryz.func182,Tryz.ntmps182
 go_wp2_with (go_at_call 175;refine HS.out.mono ?_;rintro e w4 ⟨rfl,hb4⟩)
 go_ret
 exact ⟨rfl,hb4⟩
def colB (cols:List Col) (i:Nat):Bool:=match cols[i]? with
 | some c=>rightB c && !(cols.take i).any (fun o=>decide (o.name=c.name))
 | none=>false
def nullAt (cols:List Col) (n:Int):Bool:=match cols[n.toNat]? with
 | some c=>c.null
 | none=>false
theorem setB_in {l:List Int} {many:Int} (h:setB l many=true) : ∀ x ∈ l,0≤x∧x<many:=by
 intro x hx
 obtain ⟨i,hi⟩:=List.mem_iff_getElem?.1 hx
 have hlt:=(List.getElem?_eq_some_iff.1 hi).1
 unfold setB at h
 rw [Bool.and_eq_true,List.all_eq_true] at h
 have:=of_decide_eq_true (h.2 i (List.mem_range.2 hlt))
 have hg:l.getD i 0=x:=by simp [List.getD,hi]
 rw [hg] at this
 exact ⟨this.1,this.2.1⟩
def rightS (cols:List Col) (key:List Int) (uq:List (List Int)):Bool:=decide (1≤cols.length∧cols.length≤8∧uq.length≤3) && (setB key cols.length && ((List.range cols.length).all (colB cols) && (!key.any (nullAt cols) && !uq.any (fun l=>!setB l cols.length))))
set_option maxRecDepth 100000 in
set_option maxHeartbeats 4000000 in
theorem lookright_any (vc vk vu:Value) (cols:List Col) (key:List Int) (uq:List (List Int)) (w:World) (hc:ColsAt w vc cols) (hk:IntsAt w vk key) (hu:ListsAt w vu uq):Calls Tryz.prog 130 #[.agg #[vc,vk,vu]] w fun e w'=>e = .returned (.bool (rightS cols key uq))∧Bel w w':=by
 obtain ⟨R,hR⟩ : ∃ R,R=rightS cols key uq:=⟨_,rfl⟩
 rw [← hR]
 have HR:=Lib.hid hR
 clear hR
 have HC:=Lib.hid hc
 have HK:=Lib.hid hk
 have HU:=Lib.hid hu
 obtain ⟨Ac,cc,rfl,hcc,hmc,hrc⟩:=hc
 obtain ⟨Au,cu,rfl,hcu,hmu,hru⟩:=hu
 have HRC:=Lib.hid hrc
 have HLS:=Lib.hid (fun V (hb:Bel w V) v l (h:IntsAt V v l)=>lookset_any Ac cols.length cc (by omega) vk (.slice Au uq.length cu) v l V h)
 have hnI:(cols.length:Int)≤9223372036854775807:=by unfold maxLen at hmc;omega
 have huI:(uq.length:Int)≤9223372036854775807:=by unfold maxLen at hmu;omega
 have hccI:(cols.length:Int)≤cc:=by omega
 have HMC:Hid (cols.length≤maxLen):=by show _≤_;omega
 clear hrc hru hk hmu hmc
 by_cases h1 : 1≤cols.length∧cols.length≤8∧uq.length≤3
 ·have b1:decide ((cols.length:Int)<1)=false:=by simp;omega
  have b2:decide ((8:Int)<cols.length)=false:=by simp;omega
  have b3:decide ((3:Int)<uq.length)=false:=by simp;omega
  cases hsb:setB key cols.length with
  | false =>
    have hf:R=false:=by rw [HR.out];unfold rightS;rw [hsb];simp
    obtain ⟨R',hR'⟩ : ∃ R',R'=setB key cols.length:=⟨_,rfl⟩
    have HLS2:=Lib.hid (fun V (hb:Bel w V)=>HLS.out V hb _ _ (HK.out.bel hb))
    rw [hsb] at HLS2
    subst hf
    go_enter Tryz.func130,Tryz.ntmps130
    go_wp2_with (go_at_call 175;refine (HLS2.out _ ((Bel.refl w).alloc _)).mono ?_;rintro e w4 ⟨rfl,hb4⟩)
    go_ret
    exact ⟨rfl,((Bel.refl w).alloc _).then_ hb4⟩
  | true =>
    have HLS2:=Lib.hid (fun V (hb:Bel w V)=>HLS.out V hb _ _ (HK.out.bel hb))
    rw [hsb] at HLS2
    have HSB:=Lib.hid hsb
    clear hsb
    go_enter Tryz.func130,Tryz.ntmps130
    go_wp2_with (go_at_call 175;refine (HLS2.out _ ((Bel.refl w).alloc _)).mono ?_;rintro e w4 ⟨rfl,hb4⟩;have hl0:w4.cell? ⟨w.heap.size,0,none⟩=some (.slice Ac cols.length cc):=hb4.c (by go_simp);have hl1:w4.cell? ⟨w.heap.size,1,none⟩=some vk:=hb4.c (by go_simp);have hl2:w4.cell? ⟨w.heap.size,2,none⟩=some (.slice Au uq.length cu):=hb4.c (by go_simp);have hw4:Bel w w4:=((Bel.refl w).alloc _).then_ hb4)
    obtain ⟨b,off,hA,hci⟩:=HRC.out (by omega)
    subst hA
    have HCI:=Lib.hid hci
    have HB4:=Lib.hid hb4
    have HW4:=Lib.hid hw4
    have eg1 : ∀ args w,(callFunc 178 args).run Tryz.prog w = .ok (.enter 178 args) w:=enters_of Tryz.func178 (by kernel_rfl) rfl
    have eg2 : ∀ args w,(callFunc 179 args).run Tryz.prog w = .ok (.enter 179 args) w:=enters_of Tryz.func179 (by kernel_rfl) rfl
    have eg3 : ∀ args w,(callFunc 182 args).run Tryz.prog w = .ok (.enter 182 args) w:=enters_of Tryz.func182 (by kernel_rfl) rfl
    have HL0:=Lib.hid hl0
    have HL1:=Lib.hid hl1
    have HL2:=Lib.hid hl2
    clear hci hb4 hw4 hl0 hl1 hl2 HLS2
    go_loopw [37] (fun i wr=>∃ k:Nat,k≤cols.length∧i = .int .i64 k∧Hid (Bel w4 wr)∧Hid (∀ j,j<k→colB cols j=true)) (fun i _=>cols.length - (intOf i).toNat)
    case atStart=>exact ⟨0,Nat.zero_le _,rfl,Bel.refl w4,fun j hj=>by omega⟩
    case round =>
     obtain ⟨k,hk,rfl,HB,HT⟩:=hrel
     have hl0:=HB.out.c HL0.out
     by_cases hlt:k<cols.length
     ·obtain ⟨x,hx⟩ : ∃ x,cols[k]? = some x:=⟨_,List.getElem?_eq_getElem hlt⟩
      obtain ⟨q0,q1,q2,q3⟩:=HCI.out k x hx
      have hbw:Bel w wr:=HW4.out.then_ HB.out
      have p0:=hbw.c q0
      have p1:=hbw.c q1
      have p2:=hbw.c q2
      have p3:=hbw.c q3
      have hkI:(k:Int)<cols.length:=by omega
      have hkcI:(k:Int)≤cc:=by omega
      have HCB:Hid (colB cols k=(rightB x && !(cols.take k).any (fun o=>decide (o.name=x.name)))):=by show _=_;unfold colB;rw [hx]
      have HNX:Hid (colB cols k=true → ∀ j,j<k+1→colB cols j=true):=fun e j hj=>by
       by_cases ej:j=k
       ·subst ej;exact e
       ·exact HT.out j (by omega)
      have HNO:Hid (colB cols k=false→R=false):=fun e=>by
       rw [HR.out];unfold rightS
       have:(List.range cols.length).all (colB cols)=false:=by rw [List.all_eq_false];exact ⟨k,List.mem_range.2 hlt,by simp [e]⟩
       rw [this];simp
      have hne:wr.heap.size ≠ w.heap.size:=by have h1:=hbw.size;have h2:=(World.block_lt_of_cell? (w:=wr) (a:=⟨w.heap.size,0,none⟩) hl0);simp at h2;omega
      have hbx:Bel wr (wr.alloc (.cells #[.string x.name,.int .i64 x.t,.int .i64 x.z,.bool x.null] 67)):=(Bel.refl wr).alloc _
      have HRI:=Lib.hid (scright_any x (wr.alloc (.cells #[.string x.name,.int .i64 x.t,.int .i64 x.z,.bool x.null] 67)))
      have HCF:=Lib.hid (fun V (hV:Bel (wr.alloc (.cells #[.string x.name,.int .i64 x.t,.int .i64 x.z,.bool x.null] 67)) V)=>slContainsFuncCol_any 178 #[.pointer (some ⟨wr.heap.size,0,none⟩)] eg1 (fun o=>decide (o.name=x.name)) (.slice (some ⟨b,off,none⟩) k cc) (cols.take k) V ((HC.out.bel (hbw.then_ (hbx.then_ hV))).take k hk)
       (fun W hW o ho=>lookCa_any o x.name wr.heap.size W ((hV.then_ hW).c (by go_simp))))
      have HBW:=Lib.hid hbw
      have HBX:=Lib.hid hbx
      have HL0x:Hid ((wr.alloc (.cells #[.string x.name,.int .i64 x.t,.int .i64 x.z,.bool x.null] 67)).cell? ⟨w.heap.size,0,none⟩=some (.slice (some ⟨b,off,none⟩) cols.length cc)):=hbx.c hl0
      clear hx q0 q1 q2 q3 hbw hbx
      unfold Col.v at HRI
      cases hrb:rightB x with
      | false =>
        have hf:R=false:=HNO.out (by rw [HCB.out,hrb];rfl)
        rw [hrb] at HRI
        clear hrb
        go_wp2_with (go_at_call 176;refine HRI.out.mono ?_;rintro e w5 ⟨rfl,hb5⟩)
        go_ret
        exact ⟨by first | rfl | (rw [hf];rfl),HBW.out.then_ (HBX.out.then_ hb5)⟩
      | true =>
        rw [hrb] at HRI HCB
        clear hrb
        cases hdup:(cols.take k).any (fun o=>decide (o.name=x.name)) with
        | true =>
          have hf:R=false:=HNO.out (by rw [HCB.out,hdup];rfl)
          rw [hdup] at HCF
          clear hdup
          go_wp2_with (first | (go_at_call 176;refine HRI.out.mono ?_;rintro e w5 ⟨rfl,hb5⟩;have hl5:=hb5.c HL0x.out) | (go_at_call 177;refine (HCF.out _ hb5).mono ?_;rintro e w6 ⟨rfl,hb6⟩))
          go_ret
          exact ⟨by first | rfl | (rw [hf];rfl),HBW.out.then_ ((HBX.out.then_ hb5).then_ hb6)⟩
        | false =>
          have ht:=HNX.out (by rw [HCB.out,hdup];rfl)
          have HTT:=Lib.hid ht
          rw [hdup] at HCF
          clear hdup ht
          go_wp2_with (first | (go_at_call 176;refine HRI.out.mono ?_;rintro e w5 ⟨rfl,hb5⟩;have hl5:=hb5.c HL0x.out) | (go_at_call 177;refine (HCF.out _ hb5).mono ?_;rintro e w6 ⟨rfl,hb6⟩))
          go_roundw
          case rel=>exact ⟨k+1,by omega,by go_num,HB.out.then_ ((HBX.out.then_ hb5).then_ hb6),HTT.out⟩
          case measure=>simp [intOf];omega
     ·obtain rfl:k=cols.length:=by omega
      have hl1:=HB.out.c HL1.out
      have hl2:=HB.out.c HL2.out
      have HRN:Hid (R=(!key.any (nullAt cols) && !uq.any (fun l=>!setB l cols.length))):=by
       show _=_
       rw [HR.out];unfold rightS
       have:(List.range cols.length).all (colB cols)=true:=by rw [List.all_eq_true];exact fun i hi=>HT.out i (List.mem_range.1 hi)
       rw [decide_eq_true h1,HSB.out,this];rfl
      clear HT hlt hk
      have hbw:Bel w wr:=HW4.out.then_ HB.out
      have HBW:=Lib.hid hbw
      have HKF:=Lib.hid (slContainsFuncInt_any 179 #[.pointer (some ⟨w.heap.size,0,none⟩)] eg2 (nullAt cols) vk key wr (HK.out.bel hbw) (fun W hW x hx=>by
       obtain ⟨g0,g1⟩:=setB_in HSB.out x hx
       obtain ⟨n,rfl⟩:=Int.eq_ofNat_of_zero_le g0
       have hn:n<cols.length:=by omega
       have hcx:cols[n]? = some cols[n]:=List.getElem?_eq_getElem hn
       have hnul:nullAt cols (n:Int)=cols[n].null:=by unfold nullAt;simp [hcx]
       rw [hnul]
       exact lookCb_any _ cols n cols[n] hcx w.heap.size W (hW.c hl0) (HC.out.bel (hbw.then_ hW))))
      have HUF:=Lib.hid (fun V (hV:Bel wr V)=>slContainsFuncInts_any 182 #[.pointer (some ⟨w.heap.size,0,none⟩)] eg3 (fun l=>!setB l cols.length) (.slice Au uq.length cu) uq V (HU.out.bel (hbw.then_ hV)) (fun W hW l hl u hu=>lookCc_any _ cols.length cc HMC.out vk (.slice Au uq.length cu) u l w.heap.size W ((hV.then_ hW).c hl0) ((hV.then_ hW).c hl1) ((hV.then_ hW).c hl2) hu))
      clear hbw
      cases hkn:key.any (nullAt cols) with
      | true =>
        rw [hkn] at HKF HRN
        clear hkn
        go_wp2_with (go_at_call 180;refine HKF.out.mono ?_;rintro e w5 ⟨rfl,hb5⟩)
        go_ret
        exact ⟨by rw [HRN.out];rfl,HBW.out.then_ hb5⟩
      | false =>
        rw [hkn] at HKF HRN
        clear hkn
        go_wp2_with (first | (go_at_call 180;refine HKF.out.mono ?_;rintro e w5 ⟨rfl,hb5⟩;have hl5:=hb5.c hl2) | (go_at_call 181;refine (HUF.out _ hb5).mono ?_;rintro e w6 ⟨rfl,hb6⟩))
        go_ret
        exact ⟨by rw [HRN.out];rfl,HBW.out.then_ (hb5.then_ hb6)⟩
 ·have hf:R=false:=by rw [HR.out];unfold rightS;rw [decide_eq_false h1];rfl
  subst hf
  by_cases n1:(cols.length:Int)<1
  ·have b4:decide ((1:Int)≤cols.length)=false:=by simp;omega
   go_enter Tryz.func130,Tryz.ntmps130
   go_wp2_with fail
   all_goals
    go_ret
    exact ⟨rfl,by (repeat (first | exact Below.refl _ _ | assumption | exact Bel.refl _ | refine Bel.alloc ?_ _ | refine Bel.drew ?_ | refine Bel.drewN ?_ _ | refine Bel.then_ ?_ (by assumption) | refine Bel.setCell ?_ (by first | (simp;done) | (simp;omega)) _))⟩
  ·have n1b:decide ((cols.length:Int)<1)=false:=by simp;omega
   by_cases n2:(8:Int)<cols.length
   ·go_enter Tryz.func130,Tryz.ntmps130
    go_wp2_with fail
    all_goals
     go_ret
     exact ⟨rfl,by (repeat (first | exact Below.refl _ _ | assumption | exact Bel.refl _ | refine Bel.alloc ?_ _ | refine Bel.drew ?_ | refine Bel.drewN ?_ _ | refine Bel.then_ ?_ (by assumption) | refine Bel.setCell ?_ (by first | (simp;done) | (simp;omega)) _))⟩
   ·have n2b:decide ((8:Int)<cols.length)=false:=by simp;omega
    have n3:(3:Int)<uq.length:=by omega
    go_enter Tryz.func130,Tryz.ntmps130
    go_wp2_with fail
    all_goals
     go_ret
     exact ⟨rfl,by (repeat (first | exact Below.refl _ _ | assumption | exact Bel.refl _ | refine Bel.alloc ?_ _ | refine Bel.drew ?_ | refine Bel.drewN ?_ _ | refine Bel.then_ ?_ (by assumption) | refine Bel.setCell ?_ (by first | (simp;done) | (simp;omega)) _))⟩
end
section
section
open Go.RowKit Go.Shelf Go.Lib Go.Extern.Stop Go.Stop Go.Extern
attribute [local go_sem] Oper.semAt_some
theorem scCheck_any (vc vk vu:Value) (cols:List Col) (key:List Int) (uq:List (List Int)) (w:World) (hc:ColsAt w vc cols) (hk:IntsAt w vk key) (hu:ListsAt w vu uq) :
 Calls Tryz.prog 104 #[.agg #[vc,vk,vu]] w fun e w'=>e = .returned (.int .i64 (if rightS cols key uq then 0 else 2))∧Bel w w':=by
 have HRI:=Lib.hid (fun V (hb:Bel w V)=>lookright_any vc vk vu cols key uq V (hc.bel hb) (hk.bel hb) (hu.bel hb))
 clear hc hk hu
 cases hr:rightS cols key uq
 all_goals
  rw [hr] at HRI
  clear hr
  go_enter Tryz.func104,Tryz.ntmps104
  go_wp2_with (go_at_call 130;refine (HRI.out _ (by first | exact Bel.refl w | exact (Bel.refl w).alloc _ | exact ((Bel.refl w).alloc _).alloc _)).mono ?_;rintro e w4 ⟨rfl,hb4⟩)
  go_ret
  exact ⟨rfl,by first | exact hb4 | exact ((Bel.refl w).alloc _).then_ hb4 | exact (((Bel.refl w).alloc _).alloc _).then_ hb4⟩
def ValsAt (w:World) (v:Value) (l:List Val):Prop:=∃ A c,v = .slice A l.length c∧l.length≤c∧c≤maxLen∧(0<l.length → ∃ b off,A=some ⟨b,off,none⟩ ∧ ∀ i (x:Val),l[i]? = some x →
 w.cell? ⟨b,off+i * 4,none⟩=some (.int .i64 x.k)∧w.cell? ⟨b,off+i * 4+1,none⟩=some (.int .i64 x.n)∧w.cell? ⟨b,off+i * 4+2,none⟩=some (.int .u64 x.u)∧w.cell? ⟨b,off+i * 4+3,none⟩=some (.string x.b))
theorem ValsAt.bel {w w':World} {v:Value} {l:List Val} (h:ValsAt w v l) (hb:Bel w w'):ValsAt w' v l:=by
 obtain ⟨A,c,e,hc,hm,h⟩:=h
 exact ⟨A,c,e,hc,hm,fun hl=>by obtain ⟨b,off,ea,hi⟩:=h hl;exact ⟨b,off,ea,fun i x hx=>⟨hb.c (hi i x hx).1,hb.c (hi i x hx).2.1,hb.c (hi i x hx).2.2.1,hb.c (hi i x hx).2.2.2⟩⟩⟩
end
section
open Go.RowKit Go.Shelf Go.Lib
attribute [local go_sem] Oper.semAt_some
theorem ownsRow_bel {w w':World} {base:Nat} {e:TypeId} {size:Nat} {v:Value} {n:Nat} {xs:List Value} (h:w.ownsRow base e size v n xs) (hb:Bel w w'):w'.ownsRow base e size v n xs:=by
 refine ⟨h.1,?_⟩
 rcases h.2 with h2 | ⟨g,cap,cur,hv,hg,hh,r⟩
 ·exact .inl h2
 ·exact .inr ⟨g,cap,cur,hv,hg,(hb.block g (Array.getElem?_eq_some_iff.1 hh).1).trans hh,r⟩
theorem row_any {w:World} {b e z n:Nat} {v:Value} {xs:List Value} (h:w.ownsRow b e z v n xs) : ∃ A c,v = .slice A n c:=by
 rcases h.2 with ⟨rfl,rfl⟩ | ⟨g,cap,cur,rfl,_⟩
 ·exact ⟨none,0,rfl⟩
 ·exact ⟨_,cap,rfl⟩
def vrow (x:Val):List Value:=[.int .i64 x.k,.int .i64 x.n,.int .u64 x.u,.string x.b]
def vrows (l:List Val):List Value:=l.flatMap vrow
theorem vrows_append (l k:List Val):vrows (l ++ k)=vrows l ++ vrows k:=by simp [vrows]
theorem vrows_at : ∀ (l:List Val) (k j:Nat) (x:Val),l[k]? = some x→j<4→(vrows l)[k * 4+j]? = (vrow x)[j]?
 | [],k,j,x,h,_=>by simp at h
 | y :: l,0,j,x,h,hj=>by
   simp at h
   subst h
   show (vrow y ++ vrows l)[0 * 4+j]? = _
   rw [List.getElem?_append_left (by simp [vrow];omega)]
   simp
 | y :: l,k+1,j,x,h,hj=>by
   show (vrow y ++ vrows l)[(k+1) * 4+j]? = _
   have e:(vrow y).length=4:=rfl
   rw [List.getElem?_append_right (by omega),e,show (k+1) * 4+j - 4=k * 4+j by omega]
   exact vrows_at l k j x (by simpa using h) hj
theorem ValsAt.of_own {w:World} {b n:Nat} {v:Value} {l:List Val} (h:w.ownsRow b 64 4 v n (vrows l)) (hn:n=l.length):ValsAt w v l:=by
 subst hn
 rcases h.2 with ⟨rfl,hl⟩ | ⟨g,cap,cur,rfl,hbg,hg,h2,h3,h4,h5⟩
 ·exact ⟨none,0,by rw [hl],by omega,by unfold maxLen;omega,fun h0=>by omega⟩
 ·refine ⟨_,cap,rfl,h2,by omega,fun h0=>⟨g,0,rfl,fun i x hx=>?_⟩⟩
  have hc : ∀ j u,(vrows l)[j]? = some u→w.cell? ⟨g,0+j,none⟩=some u:=fun j u hu=>by
   have:=h.cells (g:=g) rfl j u hu
   rw [Addr.add_lit] at this
   exact this
  refine ⟨?_,?_,?_,?_⟩
  ·have:=hc (i * 4) _ ((vrows_at l i 0 x hx (by omega)).trans rfl);exact this
  ·have:=hc (i * 4+1) _ ((vrows_at l i 1 x hx (by omega)).trans rfl);rw [← Nat.add_assoc] at this;exact this
  ·have:=hc (i * 4+2) _ ((vrows_at l i 2 x hx (by omega)).trans rfl);rw [← Nat.add_assoc] at this;exact this
  ·have:=hc (i * 4+3) _ ((vrows_at l i 3 x hx (by omega)).trans rfl);rw [← Nat.add_assoc] at this;exact this
theorem infoV:(Tryz.prog.info? 64).map (fun i=>(i.zero,i.size,i.bytes))=some (some (.agg #[.int .i64 0,.int .i64 0,.int .u64 0,.string ⟨#[]⟩]),4,40):=by kernel_rfl
theorem reads4 (w:World) (T:TypeId) (c0 c1 c2 c3:Value):Reads (w.alloc (.cells #[c0,c1,c2,c3] T)) (w.heap.size+1) 4 (some ⟨w.heap.size,0,none⟩) 1 [c0,c1,c2,c3]:=by
 refine ⟨rfl,fun _=>⟨_,rfl,by simp,fun j u hu=>?_⟩⟩
 rw [Addr.add_lit]
 have hj:=(List.getElem?_eq_some_iff.1 hu).1
 simp at hj
 have hc:j=0 ∨ j=1 ∨ j=2 ∨ j=3:=by omega
 rcases hc with rfl | rfl | rfl | rfl <;> (simp at hu;subst hu;simp)
end
end
section
open Go.RowKit
theorem add_free {b off:Nat} (l:Nat):(Addr.add ⟨b,off,none⟩ l)=⟨b,off+l,none⟩:=by unfold Addr.add;split <;> simp_all
theorem make_bytes (kl kc:IntKind) (n:Nat) (hn:n≤281474976710656) (w:World):(Instr.makeSlice 34 (.int kl (n:Int)) (.int kc (n:Int))).run Tryz.prog w = .ok (.slice (some ⟨w.heap.size,0,none⟩) n n) (w.alloc (.cells (madeCells #[.int .u8 0] n) 5)) :=
 run_make_row' (P:=Tryz.prog) 34 5 (.int .u8 0) 1 Tryz.underlying34 infoU8 rfl kl kc n (by omega) (by omega) w
theorem row_form {w:World} {b e n:Nat} {v:Value} {xs:List Value} (h:w.ownsRow b e 1 v n xs) : ∃ A c,v = .slice A n c:=by
 rcases h.2 with ⟨rfl,rfl⟩ | ⟨g,cap,cur,rfl,_⟩
 ·exact ⟨none,0,rfl⟩
 ·exact ⟨_,cap,rfl⟩
theorem conv_bytes (s:List UInt8) (W:World):(convert 9 34 (.string ⟨s.toArray⟩)).run Tryz.prog W = .ok (.slice (some ⟨W.heap.size,0,none⟩) s.length (grownCap W s.length 0 5)) (Lib.bytesWorld W 5 ⟨s.toArray⟩):=by
 have:=Lib.run_convert_string_bytes (P:=Tryz.prog) W 9 34 5 ⟨s.toArray⟩ Tryz.underlying9 Tryz.underlying34 Tryz.underlying5
 rw [show (⟨s.toArray⟩:ByteArray).size=s.length from rfl] at this
 exact this
theorem bytes_bel (s:List UInt8) (W:World):Bel W (Lib.bytesWorld W 5 ⟨s.toArray⟩):=by
 refine ⟨?_,?_,?_,by rw [Lib.bytesWorld_size];omega,fun k hk=>Lib.bytesWorld_at_old W _ _ k hk⟩ <;> simp [Lib.bytesWorld,World.freeze,World.alloc,World.drew,-World.alloc_eq,-World.drew_eq]
theorem bytes_reads (s:List UInt8) (W:World):Reads (Lib.bytesWorld W 5 ⟨s.toArray⟩) (Lib.bytesWorld W 5 ⟨s.toArray⟩).heap.size 1 (some ⟨W.heap.size,0,none⟩) s.length (s.map bv):=by
 refine ⟨by simp,fun _=>⟨_,rfl,by rw [Lib.bytesWorld_size];simp,fun j u hu=>?_⟩⟩
 have hj:j<s.length:=by have:=(List.getElem?_eq_some_iff.1 hu).1;simpa using this
 rw [add_free,Nat.zero_add,Lib.bytesWorld_cell W 5 ⟨s.toArray⟩ j hj]
 rw [List.getElem?_map,List.getElem?_eq_getElem hj] at hu
 simp at hu
 subst hu
 simp [bv,List.getD,hj]
end
end Go.Proofs.YtnajjhgbombboaaGreatDoor
