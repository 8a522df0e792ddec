/-
  Texts behind the statement: part 40.
-/
import Derived.Test.YtnajjhgbombboaaGreatDoorP28
set_option linter.unusedVariables false
set_option linter.unusedSimpArgs false
namespace Go.Proofs.YtnajjhgbombboaaGreatDoor
section
open Go.RowKit Go.Shelf Go.Lib
def pT (s:List UInt8):Option (Ev×List UInt8):=match rdText s with
 | none=>none
 | some (x,m)=>match decE x with
   | none=>none
   | some e=>some (e,s.drop m)
def unpackE (s:List UInt8):Option (List Ev):=match pNum 101 s with
 | none=>none
 | some (n,r)=>match rep pT n r with
   | none=>none
   | some (l,r2)=>if r2=[] then some l else none
theorem encTs_len : ∀ {l:List Ev},(∀ x ∈ l,rightE x=true∧x.Wf)→(encTs l).length≤6018 * l.length
 | [],_=>by simp [encTs]
 | x :: l,h=>by
   have h1:=encT_len (h x (List.mem_cons_self ..)).1 (h x (List.mem_cons_self ..)).2
   have h2:=encTs_len (l:=l) (fun y hy=>h y (List.mem_cons_of_mem _ hy))
   show (encT x ++ encTs l).length≤_
   rw [List.length_append,List.length_cons]
   omega
theorem pT_enc {x:Ev} (h:rightE x=true) (hw:x.Wf) (r:List UInt8):pT (encT x ++ r)=some (x,r):=by
 unfold pT encT
 rw [rdText_enc _ (by have:=encE_len h hw;omega)]
 dsimp only
 rw [decE_enc h hw]
 dsimp only
 rw [List.drop_left]
theorem unpack_enc {l:List Ev} (h : ∀ x ∈ l,rightE x=true∧x.Wf) (hl:l.length≤100):unpackE (encEs l)=some l:=by
 unfold unpackE encEs
 rw [pNum_enc (by omega) (by omega)]
 dsimp only
 have:=rep_enc (enc:=encT) (encs:=encTs) (p:=pT) rfl (fun _ _=>rfl) (l:=l) (fun x hx r=>pT_enc (h x hx).1 (h x hx).2 r) []
 rw [List.append_nil] at this
 rw [this]
 dsimp only
 rw [if_pos rfl]
end
section
open Go.RowKit Go.Shelf Go.Lib
attribute [local go_sem] Oper.semAt_some
theorem evs_none (B:Nat) (V:World):EvsIn B V (.slice none 0 0) []:=⟨B,[],Nat.le_refl _,⟨rfl,fun i cs x hc=>by simp at hc⟩,World.ownsRow_nil _ _ _ _⟩
theorem infoE:(Tryz.prog.info? 31).map (fun i=>(i.zero,i.size,i.bytes))=some (some (.agg #[.int .i64 0,.string ⟨#[]⟩,.slice none 0 0,.slice none 0 0,.slice none 0 0,.slice none 0 0,.slice none 0 0,.slice none 0 0]),8,168):=by kernel_rfl
theorem eunpackC_any (g:Nat) (v:Value) (w:World) (hx:Blk w g 48 #[v]) :
  Calls Tryz.prog 50 #[.pointer (some ⟨g,0,none⟩)] w fun e w'=>e = .returned (.tuple #[])∧Blk w' g 48 #[.slice none 0 0]∧BelS (fun j=>j ≠ g) w w':=by
 have c0:w.cell? ⟨g,0,none⟩=some v:=hx.cell 0
 have f0:=hx.frozen 0
 have HF:Hid (Blk (w.setCell ⟨g,0,none⟩ (.slice none 0 0)) g 48 #[.slice none 0 0]∧BelS (fun j=>j ≠ g) w (w.setCell ⟨g,0,none⟩ (.slice none 0 0))) :=
  Lib.hid ⟨hx.set_ 0 _,(BelS.refl (fun j=>j ≠ g) w).setCell (p:=⟨g,0,none⟩) (fun h=>h rfl) _⟩
 clear hx
 go_enter Tryz.func50,Tryz.ntmps50
 go_wp2
 go_end0
 exact ⟨rfl,HF.out⟩
theorem ecaught_gave2 (g h:Nat) (hne:g ≠ h) (v:Value) (V:World) (hx:Blk V g 48 #[v]) (he:Blk V h 35 #[.int .i64 0]) :
  CallsD Tryz.prog 36 #[.pointer (some ⟨h,0,none⟩),.func (.func 50) #[] #[.pointer (some ⟨g,0,none⟩)]] (.panicking eGaveUp) V fun e u' w' =>
   e = .returned (.tuple #[])∧u' = .panicking [{ v:=.iface 35 (.int .i64 180),recovered:=true }]∧BelS (fun j=>j ≠ g∧j ≠ h) V w'∧Blk w' g 48 #[.slice none 0 0]∧Blk w' h 35 #[.int .i64 180]:=by
 have hn:=neq_errno
 have ha:=assert_errno
 have HC:=Lib.hid (eunpackC_any g v V hx)
 have HE:=Lib.hid he
 clear hx he
 refine callsD_of_wpS Tryz.func36 rfl fun c₀ cs hu=>?_
 unfold eGaveUp at hu
 apply wpS_seq
 apply wpS_region
 simp [wpOpsS,go_sem,recoverD,hu,Tryz.ntmps36,Exit.thenS]
 simp only [Array.replicate,List.replicate,List.setIfInBounds_toArray,List.set_cons_succ,List.set_cons_zero,List.append_toArray,List.cons_append,List.nil_append]
 refine wpS_of_wp ?_
 go_wp2_with fail
 refine HC.out.mono ?_
 rintro e w' ⟨rfl,hx',hbs⟩
 have he':Blk w' h 35 #[.int .i64 0]:=(hbs.block _ (Ne.symm hne) HE.out.lt).trans HE.out
 have c6:w'.cell? ⟨h,0,none⟩=some (.int .i64 0):=he'.cell 0
 have f6:=he'.frozen 0
 have HF:Hid (BelS (fun j=>j ≠ g∧j ≠ h) V (w'.setCell ⟨h,0,none⟩ (.int .i64 180))∧Blk (w'.setCell ⟨h,0,none⟩ (.int .i64 180)) g 48 #[.slice none 0 0]∧Blk (w'.setCell ⟨h,0,none⟩ (.int .i64 180)) h 35 #[.int .i64 180]):=by
  have hbs2:BelS (fun j=>j ≠ g∧j ≠ h) V w':=⟨hbs.os,hbs.tape,hbs.output,hbs.size,fun k hk hl=>hbs.block k hk.1 hl⟩
  exact Lib.hid ⟨hbs2.setCell (p:=⟨h,0,none⟩) (fun hk=>hk.2 rfl) _,hx'.far (by exact hne) _,he'.set_ 0 _⟩
 clear hx' hbs he'
 go_wp2
 clear HC hn ha HE
 obtain ⟨a1,a2,a3⟩:=HF.out
 simp_all [bodyPostS,results,Tryz.results36]
def GivesEvs (o:Option (List Ev)) (w:World) (e:Ending) (w':World):Prop:=match o with
 | some l=>∃ v,e = .returned (.tuple #[v,.int .i64 0])∧EvsIn w.heap.size w' v l∧Bel w w'
 | none=>e = .returned (.tuple #[.slice none 0 0,.int .i64 180])∧Bel w w'
set_option maxRecDepth 100000 in
set_option maxHeartbeats 16000000 in
theorem eunpack_any (vb:Value) (s:List UInt8) (hs:s.length≤1000000) (w:World) (hg:ErrType w) (hb:BsAt w vb s):Calls Tryz.prog 19 #[vb] w (GivesEvs (unpackE s) w):=by
 have hmf : ∀ (fn:Fn) (first cap:Array Value) (w:World),(Instr.makeFunc fn first cap).run Tryz.prog w = .ok (.func fn first cap) w:=fun _ _ _ _=>rfl
 have HG:=Lib.hid hg
 obtain ⟨Ab,cb,rfl,hn,hmx,hrd⟩:=hb
 obtain ⟨R,hR⟩ : ∃ R,R=unpackE s:=⟨_,rfl⟩
 rw [← hR]
 obtain ⟨W0,hW0⟩ : ∃ V,V=((w.alloc (.cells #[.slice none 0 0] 48)).alloc (.cells #[.int .i64 0] 35)).alloc (.cells #[.slice Ab s.length cb] 89):=⟨_,rfl⟩
 have hb0:Bel w W0:=by rw [hW0];exact (((Bel.refl w).alloc _).alloc _).alloc _
 have k0:Blk W0 w.heap.size 48 #[.slice none 0 0]:=by rw [hW0];exact ((Blk.new w _ _).alloc _).alloc _
 have k1:Blk W0 (w.heap.size+1) 35 #[.int .i64 0]:=by
  rw [hW0]
  have:=(Blk.new (w.alloc (.cells #[.slice none 0 0] 48)) 35 #[.int .i64 0]).alloc (.cells #[.slice Ab s.length cb] 89)
  rw [World.size_alloc] at this
  exact this
 have k2:Blk W0 (w.heap.size+2) 89 #[.slice Ab s.length cb]:=by
  rw [hW0]
  have:=Blk.new ((w.alloc (.cells #[.slice none 0 0] 48)).alloc (.cells #[.int .i64 0] 35)) 89 #[.slice Ab s.length cb]
  rw [World.size_alloc,World.size_alloc] at this
  exact this
 have HT0:Hid (TapeAt W0 (w.heap.size+2) s):=Lib.hid ⟨Ab,cb,k2.cell 0,k2.frozen 0,hn,hmx,(hrd.keep fun p hp=>hb0.cell hp).more (by omega)⟩
 have H0:Hid (US w W0 (.slice none 0 0) s):=Lib.hid ⟨hb0,k0,k1,HT0.out⟩
 have HN:=Lib.hid (enumber_any (w.heap.size+2) s hs 101 (by omega) W0 HT0.out)
 clear hg hb0 k0 k1 k2 hrd hn hmx
 unfold unpackE at hR
 cases hx:pNum 101 s with
 | none =>
   rw [hx] at HN hR
   have hR0:R=none:=hR
   subst hR0
   clear hR hx
   go_enter_defers Tryz.func19,Tryz.ntmps19
   go_wp2_with fail
   rw [← hW0]
   clear hW0
   refine HN.out.mono ?_
   rintro e1 w1 ⟨rfl,hg1⟩
   have hb1:Bel w w1:=Below.grown H0.out.bel hg1 H0.out.bel.size (fun j e=>by cases e;omega)
   have ho1:=H0.out.out.grown hg1 (fun e=>by have:=Option.some.inj e;omega)
   have he1:=H0.out.err.grown hg1 (fun e=>by have:=Option.some.inj e;omega)
   try go_wp2
   refine leaves_cons (f:=36) (args:=#[.pointer (some ⟨w.heap.size+1,0,none⟩),.func (.func 50) #[] #[.pointer (some ⟨w.heap.size,0,none⟩)]]) (by simp) (by simp [go_sem]) ?_
   refine (ecaught_gave2 w.heap.size (w.heap.size+1) (by omega) _ w1 ho1 he1).mono ?_
   rintro e9 u9 w9 ⟨rfl,rfl,hbs9,hx9,he9⟩
   have hb9:=Lib.hid (bel_two hb1 hbs9)
   have z0:w9.cell? ⟨w.heap.size,0,none⟩=some (.slice none 0 0):=hx9.cell 0
   have z8:w9.cell? ⟨w.heap.size+1,0,none⟩=some (.int .i64 180):=he9.cell 0
   clear hbs9 hx9 he9
   simp [Leaves,settle,results,Tryz.results19,go_sem,z0,z8]
   exact ⟨rfl,hb9.out⟩
 | some q =>
   obtain ⟨n,r0⟩:=q
   rw [hx] at HN hR
   dsimp only at hR
   obtain ⟨hr0,hn101⟩:=pNum_len hx
   have hr0s:r0.length≤1000000:=by omega
   have hnI:(n:Int)<101:=by omega
   obtain ⟨i0,hi0,hz0,hz1,hz2⟩:=info_parts infoE
   have hp8:Hid ((0:Nat)<8):=Lib.hid (by omega)
   have HR:=Lib.hid hR
   clear hR hx hr0
   go_enter_defers Tryz.func19,Tryz.ntmps19
   go_wp2_with fail
   rw [← hW0]
   clear hW0
   refine HN.out.mono ?_
   rintro e1 w1 ⟨rfl,ht1,hg1⟩
   have H1:=Lib.hid (H0.out.taped hg1 ht1)
   clear ht1 hg1 HN
   go_wp2
   go_loopw [13] (fun i wr=>∃ (k:Nat) (L:List Ev) (r:List UInt8) (A':Option Addr) (c':Nat),k≤n∧i = .int .i64 k∧r.length≤1000000∧Hid (rep pT k r0=some (L,r)∧L.length=k)∧Hid (US w wr (.slice A' k c') r∧EvsIn (w.heap.size+3) wr (.slice A' k c') L)) (fun i _=>n - (intOf i).toNat)
   case atStart=>exact ⟨0,[],r0,none,0,Nat.zero_le _,rfl,hr0s,⟨rfl,rfl⟩,H1.out,evs_none _ _⟩
   case round =>
    obtain ⟨k,L,r,A',c',hk,rfl,hrs,HL,HO⟩:=hrel
    by_cases hlt:k<n
    ·have hkI:(k:Int)<n:=by omega
     cases ha:rdText r with
     | none =>
       have HGT:=Lib.hid (egotS_no (w.heap.size+2) r hrs ha wr HO.out.1.tape)
       have hR0:R=none:=by rw [HR.out,rep_bad (rep_no HL.out.1 (show pT r=none by unfold pT;rw [ha])) (show k+1≤n by omega)]
       subst hR0
       clear ha HL
       go_wp2_with fail
       refine HGT.out.mono ?_
       rintro e1 w4 ⟨rfl,hg4⟩
       have hb4:Bel w w4:=Below.grown HO.out.1.bel hg4 HO.out.1.bel.size (fun j e=>by cases e;omega)
       have ho4:=HO.out.1.out.grown hg4 (fun e=>by have:=Option.some.inj e;omega)
       have he4:=HO.out.1.err.grown hg4 (fun e=>by have:=Option.some.inj e;omega)
       try go_wp2
       refine leaves_cons (f:=36) (args:=#[.pointer (some ⟨w.heap.size+1,0,none⟩),.func (.func 50) #[] #[.pointer (some ⟨w.heap.size,0,none⟩)]]) (by simp) (by simp [go_sem]) ?_
       refine (ecaught_gave2 w.heap.size (w.heap.size+1) (by omega) _ w4 ho4 he4).mono ?_
       rintro e9 u9 w9 ⟨rfl,rfl,hbs9,hx9,he9⟩
       have hb9:=Lib.hid (bel_two hb4 hbs9)
       have z0:w9.cell? ⟨w.heap.size,0,none⟩=some (.slice none 0 0):=hx9.cell 0
       have z8:w9.cell? ⟨w.heap.size+1,0,none⟩=some (.int .i64 180):=he9.cell 0
       clear hbs9 hx9 he9
       simp [Leaves,settle,results,Tryz.results19,go_sem,z0,z8]
       exact ⟨rfl,hb9.out⟩
     | some qa =>
       obtain ⟨x,m⟩:=qa
       have HGT:=Lib.hid (egotS_yes (w.heap.size+2) r hrs x m ha wr HO.out.1.tape)
       unfold strV at HGT
       have hxl:x.length≤1000000:=by have:=(rdText_back ha).2.2.2;omega
       have hr1:(r.drop m).length≤1000000:=by rw [List.length_drop];omega
       have HD:=Lib.hid (fun V (hV:Bel w V)=>edecode_any (.slice (some ⟨V.heap.size,0,none⟩) x.length (grownCap V x.length 0 5)) x hxl _ (HG.out.bel (hV.then_ (bytes_bel x V))) (conv_at x hxl V))
       have hcv:=fun V=>conv_bytes x V
       cases hd:decE x with
       | none =>
         rw [hd] at HD
         have hR0:R=none:=by rw [HR.out,rep_bad (rep_no HL.out.1 (show pT r=none by unfold pT;rw [ha];dsimp only;rw [hd])) (show k+1≤n by omega)]
         subst hR0
         clear ha hd HL hxl hr1
         go_wp2_with fail
         refine HGT.out.mono ?_
         rintro e1 w4 ⟨rfl,ht4,hg4⟩
         have H4:=Lib.hid (HO.out.1.taped hg4 ht4)
         clear ht4 hg4 HGT
         go_wp2_with fail
         refine (HD.out w4 H4.out.bel).mono ?_
         rintro e5 w5 ⟨rfl,hb5⟩
         have H5:=Lib.hid ((H4.out.below (bytes_bel x w4)).below (hb5.alloc (.cells #[.int .i64 0,.string ⟨#[]⟩,.slice none 0 0,.slice none 0 0,.slice none 0 0,.slice none 0 0,.slice none 0 0,.slice none 0 0] 31)))
         unfold evV
         clear hb5 HD hcv
         go_wp2_with (go_at_call 39;refine (emust_no _).mono ?_;rintro e6 w6 ⟨rfl,rfl⟩)
         try go_wp2
         refine leaves_cons (f:=36) (args:=#[.pointer (some ⟨w.heap.size+1,0,none⟩),.func (.func 50) #[] #[.pointer (some ⟨w.heap.size,0,none⟩)]]) (by simp) (by simp [go_sem]) ?_
         refine (ecaught_gave2 w.heap.size (w.heap.size+1) (by omega) _ _ H5.out.out H5.out.err).mono ?_
         rintro e9 u9 w9 ⟨rfl,rfl,hbs9,hx9,he9⟩
         have hb9:=Lib.hid (bel_two H5.out.bel hbs9)
         have z0:w9.cell? ⟨w.heap.size,0,none⟩=some (.slice none 0 0):=hx9.cell 0
         have z8:w9.cell? ⟨w.heap.size+1,0,none⟩=some (.int .i64 180):=he9.cell 0
         clear hbs9 hx9 he9
         simp [Leaves,settle,results,Tryz.results19,go_sem,z0,z8]
         exact ⟨rfl,hb9.out⟩
       | some e =>
         rw [hd] at HD
         have HTK:=Lib.hid (rep_yes HL.out.1 (show pT r=some (e,r.drop m) by unfold pT;rw [ha];dsimp only;rw [hd]))
         have HLL:Hid ((L ++ [e]).length=k+1):=Lib.hid (by rw [List.length_append,HL.out.2];rfl)
         clear ha hd hxl
         go_wp2_with fail
         refine HGT.out.mono ?_
         rintro e1 w4 ⟨rfl,ht4,hg4⟩
         have H4:=Lib.hid (HO.out.1.taped hg4 ht4)
         have HI4:=Lib.hid (HO.out.2.keep (above_tape (n:=w.heap.size+3) hg4 (by omega)))
         clear ht4 hg4 HGT
         go_wp2_with fail
         refine (HD.out w4 H4.out.bel).mono ?_
         rintro e5 w5 ⟨vc,vk,vu,vo,vn,vs,rfl,hin,hb5⟩
         obtain ⟨Ac,cc,Ak,ck,Au,cu,Ao,co,An,cn,As,cs,rfl,rfl,rfl,rfl,rfl,rfl⟩:=hin.at_.opened
         have hby:=bytes_bel x w4
         have hsz:w.heap.size+3≤(Lib.bytesWorld w4 5 ⟨x.toArray⟩).heap.size:=Nat.le_trans H4.out.size hby.size
         have H5:=Lib.hid ((H4.out.below hby).below hb5)
         have HI5:=Lib.hid ((HI4.out.keep (above_bel hby)).keep (above_bel hb5))
         have HX5:=Lib.hid (hin.less hsz)
         have hal:=((Bel.refl w5).alloc (.cells #[.int .i64 e.k,.string e.t,.slice Ac e.c.length cc,.slice Ak e.ky.length ck,.slice Au e.u.length cu,.slice Ao e.o.length co,.slice An e.n.length cn,.slice As e.ns.length cs] 31)).alloc (.cells #[.int .i64 e.k,.string e.t,.slice Ac e.c.length cc,.slice Ak e.ky.length ck,.slice Au e.u.length cu,.slice Ao e.o.length co,.slice An e.n.length cn,.slice As e.ns.length cs] 31)
         have H6:=Lib.hid (H5.out.below hal)
         have HI6:=Lib.hid (HI5.out.keep (above_bel hal))
         have HX6:=Lib.hid (HX5.out.keep (above_bel hal))
         have o0:w5.cell? ⟨w.heap.size,0,none⟩=some (.slice A' k c'):=H5.out.out.cell 0
         have hwl:w.heap.size<w5.heap.size:=H5.out.out.lt
         have HRE:Hid (Reads ((w5.alloc (.cells #[.int .i64 e.k,.string e.t,.slice Ac e.c.length cc,.slice Ak e.ky.length ck,.slice Au e.u.length cu,.slice Ao e.o.length co,.slice An e.n.length cn,.slice As e.ns.length cs] 31)).alloc (.cells #[.int .i64 e.k,.string e.t,.slice Ac e.c.length cc,.slice Ak e.ky.length ck,.slice Au e.u.length cu,.slice Ao e.o.length co,.slice An e.n.length cn,.slice As e.ns.length cs] 31)) (w5.heap.size+1+1) 8 (some ⟨w5.heap.size+1,0,none⟩) 1 [.int .i64 e.k,.string e.t,.slice Ac e.c.length cc,.slice Ak e.ky.length ck,.slice Au e.u.length cu,.slice Ao e.o.length co,.slice An e.n.length cn,.slice As e.ns.length cs]):=by
          have hbk:=Blk.new (w5.alloc (.cells #[.int .i64 e.k,.string e.t,.slice Ac e.c.length cc,.slice Ak e.ky.length ck,.slice Au e.u.length cu,.slice Ao e.o.length co,.slice An e.n.length cn,.slice As e.ns.length cs] 31)) 31 #[.int .i64 e.k,.string e.t,.slice Ac e.c.length cc,.slice Ak e.ky.length ck,.slice Au e.u.length cu,.slice Ao e.o.length co,.slice An e.n.length cn,.slice As e.ns.length cs]
          rw [World.size_alloc] at hbk
          refine Lib.hid ⟨rfl,fun _=>⟨_,rfl,Nat.lt_succ_self _,fun j x hx=>?_⟩⟩
          have e:(Addr.add ⟨w5.heap.size+1,0,none⟩ j)=⟨w5.heap.size+1,j,none⟩:=by unfold Addr.add;split <;> simp_all
          rw [e,hbk.cell j,List.getElem?_toArray]
          exact hx
         have hone : ∀ u ∈ ([.int .i64 e.k,.string e.t,.slice Ac e.c.length cc,.slice Ak e.ky.length ck,.slice Au e.u.length cu,.slice Ao e.o.length co,.slice An e.n.length cn,.slice As e.ns.length cs]:List Value),u.oneCell'=true:=fun u hu=>by
          simp at hu
          rcases hu with rfl | rfl | rfl | rfl | rfl | rfl | rfl | rfl <;> rfl
         have h63:k+1≤maxLen:=by unfold maxLen;omega
         have hby2:(k+1) * 168≤140737488355328:=by omega
         obtain ⟨bb,rows,hbb,hrows,hown⟩:=HI6.out
         have HROWS:=Lib.hid hrows
         have HL2:=Lib.hid HL.out.2
         rw [HL2.out] at hown
         have HOWN:=Lib.hid (ownsRow_less hown hbb)
         have HS1:Hid (w.heap.size+3≤((w5.alloc (.cells #[.int .i64 e.k,.string e.t,.slice Ac e.c.length cc,.slice Ak e.ky.length ck,.slice Au e.u.length cu,.slice Ao e.o.length co,.slice An e.n.length cn,.slice As e.ns.length cs] 31)).alloc (.cells #[.int .i64 e.k,.string e.t,.slice Ac e.c.length cc,.slice Ak e.ky.length ck,.slice Au e.u.length cu,.slice Ao e.o.length co,.slice An e.n.length cn,.slice As e.ns.length cs] 31)).heap.size):=Lib.hid H6.out.size
         clear hb5 HD hcv hin hby hsz hal hrows hown hbb HO H4 HI4 H5 HI5 HX5 HL
         unfold evV
         go_wp2_with (first | (go_at_call 39;refine (emust_yes _).mono ?_;rintro e6 w6 ⟨rfl,rfl⟩) | (at_builtin;refine wpList_append_any _ rfl (.tmp 25) (.tmp 27) 48 rfl (w.heap.size+3) 31 i0 _ 8 168 Tryz.underlying48 hi0 hz0 hz1 hz2 rfl hp8.out (.slice A' k c') k rows.flatten (by rfl) HOWN.out _ (some ⟨w5.heap.size+1,0,none⟩) 1 1 _ (by rfl) HRE.out hone h63 hby2 HS1.out ?_;intro v9 w9 hown9 hg9 hat9;obtain ⟨A9,c9,rfl⟩:=row_any hown9;have hlt9:=fun j e=>(HOWN.out.lt j e).1;have H9:=Lib.hid (H6.out.grown hg9 (fun j e=>hlt9 j e));have HE9:Hid (ERows (w.heap.size+3) w9 (rows ++ [([.int .i64 e.k,.string e.t,.slice Ac e.c.length cc,.slice Ak e.ky.length ck,.slice Au e.u.length cu,.slice Ao e.o.length co,.slice An e.n.length cn,.slice As e.ns.length cs]:List Value)]) (L ++ [e])):=Lib.hid ((HROWS.out.map (fun _ _ _ _ _ _ _ h=>h.types HOWN.out hg9)).snoc ⟨_,_,_,_,_,_,rfl,HX6.out.types HOWN.out hg9⟩);have HW9:Hid (w9.ownsRow (w.heap.size+3) 31 8 (.slice A9 (k+1) c9) (k+1) (rows ++ [([.int .i64 e.k,.string e.t,.slice Ac e.c.length cc,.slice Ak e.ky.length ck,.slice Au e.u.length cu,.slice Ao e.o.length co,.slice An e.n.length cn,.slice As e.ns.length cs]:List Value)]).flatten):=Lib.hid (by rw [List.flatten_append];simpa using hown9);have y0:w9.cell? ⟨w.heap.size,0,none⟩=some (.slice A' k c'):=H9.out.out.cell 0;have yf:w9.frozen? ⟨w.heap.size,0,none⟩=false:=H9.out.out.frozen 0;clear hown9 hg9 hat9 hlt9))
         go_roundw
         case rel=>exact ⟨k+1,_,_,A9,c9,by omega,by go_num,hr1,⟨HTK.out,HLL.out⟩,H9.out.set,EvsIn.keep (V:=w9) ⟨w.heap.size+3,rows ++ [([.int .i64 e.k,.string e.t,.slice Ac e.c.length cc,.slice Ak e.ky.length ck,.slice Au e.u.length cu,.slice Ao e.o.length co,.slice An e.n.length cn,.slice As e.ns.length cs]:List Value)],Nat.le_refl _,HE9.out,by rw [HLL.out];exact HW9.out⟩ (above_set (gx:=w.heap.size) (n:=w.heap.size+3) (by omega))⟩
         case measure=>simp [intOf];omega
    ·obtain rfl:k=n:=by omega
     have hRR:=HR.out
     rw [HL.out.1] at hRR
     dsimp only at hRR
     have HRR:=Lib.hid hRR
     obtain ⟨At,ct,t1,t2,-⟩:=HO.out.1.tape
     have H5:=Lib.hid HO.out.1
     have HI5:=Lib.hid HO.out.2
     have HL2:=Lib.hid HL.out.2
     have o0:wr.cell? ⟨w.heap.size,0,none⟩=some (.slice A' k c'):=H5.out.out.cell 0
     have o1:wr.frozen? ⟨w.heap.size,0,none⟩=false:=H5.out.out.frozen 0
     have e0:wr.cell? ⟨w.heap.size+1,0,none⟩=some (.int .i64 0):=H5.out.err.cell 0
     have e1:wr.frozen? ⟨w.heap.size+1,0,none⟩=false:=H5.out.err.frozen 0
     clear hRR HL HO HR hlt hk t2
     by_cases hr:r=[]
     ·obtain rfl:R=some L:=by rw [HRR.out,if_pos hr]
      subst hr
      simp only [List.length_nil] at t1
      clear HRR
      go_wp2_with (go_at_call 39;refine (emust_yes _).mono ?_;rintro e7 w7 ⟨rfl,rfl⟩)
      obtain ⟨Wf,hWf⟩ : ∃ V,V=(wr.setCell ⟨w.heap.size,0,none⟩ (.slice A' k c')).setCell ⟨w.heap.size+1,0,none⟩ (.int .i64 0):=⟨_,rfl⟩
      rw [← hWf]
      have z0:Wf.cell? ⟨w.heap.size,0,none⟩=some (.slice A' k c'):=by rw [hWf];go_simp
      have z1:Wf.cell? ⟨w.heap.size+1,0,none⟩=some (.int .i64 0):=by rw [hWf];go_simp
      have hfin:Hid (Bel w Wf∧EvsIn w.heap.size Wf (.slice A' k c') L):=by
       rw [hWf]
       exact Lib.hid ⟨(H5.out.bel.setCell (Nat.le_refl _) _).setCell (Nat.le_succ _) _,((HI5.out.keep (above_set (gx:=w.heap.size) (n:=w.heap.size+3) (by omega))).keep (above_set (gx:=w.heap.size+1) (n:=w.heap.size+3) (by omega))).less (by omega)⟩
      clear hWf o0 o1 e0 e1 t1
      try go_wp2
      refine leaves_cons (f:=36) (args:=#[.pointer (some ⟨w.heap.size+1,0,none⟩),.func (.func 50) #[] #[.pointer (some ⟨w.heap.size,0,none⟩)]]) (by simp) (by simp [go_sem]) ?_
      refine (ecaught_idle _ _ _).mono ?_
      rintro e8 u8 w8 ⟨rfl,rfl,rfl⟩
      simp [Leaves,settle,results,Tryz.results19,go_sem,z0,z1]
      exact ⟨_,rfl,hfin.out.2,hfin.out.1⟩
     ·have hR0:R=none:=by rw [HRR.out,if_neg hr]
      subst hR0
      have hrl:((r.length:Int) == 0)=false:=by
       rw [beq_eq_false_iff_ne]
       intro h
       exact hr (List.eq_nil_of_length_eq_zero (by omega))
      clear HRR hr
      go_wp2_with (go_at_call 39;refine (emust_no _).mono ?_;rintro e7 w7 ⟨rfl,rfl⟩)
      try go_wp2
      refine leaves_cons (f:=36) (args:=#[.pointer (some ⟨w.heap.size+1,0,none⟩),.func (.func 50) #[] #[.pointer (some ⟨w.heap.size,0,none⟩)]]) (by simp) (by simp [go_sem]) ?_
      refine (ecaught_gave2 w.heap.size (w.heap.size+1) (by omega) _ wr H5.out.out H5.out.err).mono ?_
      rintro e9 u9 w9 ⟨rfl,rfl,hbs9,hx9,he9⟩
      have hb9:=Lib.hid (bel_two H5.out.bel hbs9)
      have z0:w9.cell? ⟨w.heap.size,0,none⟩=some (.slice none 0 0):=hx9.cell 0
      have z8:w9.cell? ⟨w.heap.size+1,0,none⟩=some (.int .i64 180):=he9.cell 0
      clear hbs9 hx9 he9
      simp [Leaves,settle,results,Tryz.results19,go_sem,z0,z8]
      exact ⟨rfl,hb9.out⟩
end
section
open Go.RowKit Go.Shelf Go.Lib
attribute [local go_sem] Oper.semAt_some
theorem encEs_len {l:List Ev} (h : ∀ x ∈ l,rightE x=true∧x.Wf) (h1:l.length≤100):(encEs l).length≤9+6018 * l.length:=by
 unfold encEs
 rw [List.length_append]
 have:=encTs_len h
 have:=numB_9 (n:=l.length) (by omega)
 omega
end
end Go.Proofs.YtnajjhgbombboaaGreatDoor
