/-
  Texts behind the statement: part 2.
-/
import Derived.Test.YtnajjhgbombboaaGreatDoorP1
import Derived.Deep.RegionWith
import Derived.LaidEql
import Derived.Stop.Asserts
import Derived.RowKitTokens
set_option linter.unusedVariables false
set_option linter.unusedSimpArgs false
namespace Go.Proofs.YtnajjhgbombboaaGreatDoor
section
open Go.RowKit
def bv (c:UInt8):Value:=.int .u8 c.toNat
def BytesAt (w:World) (v:Value) (s:List UInt8) (fp:Nat→Prop):Prop :=
 ∃ A cap,v = .slice A s.length cap∧s.length≤cap∧cap≤maxLen∧(A=none→cap=0) ∧
  (∀ a,A=some a→a.spot=none)∧(0<s.length → ∃ b off cs fz,A=some ⟨b,off,none⟩∧fp b∧w.heap[b]? = some (.cells cs 5 fz) ∧ ∀ j c,s[j]? = some c→cs[off+j]? = some (bv c))
theorem BytesAt.nil (w:World) (fp:Nat→Prop):BytesAt w (.slice none 0 0) [] fp:=⟨none,0,rfl,by simp,by simp,fun _=>rfl,by simp,fun h=>by simp at h⟩
theorem BytesAt.kept {w w':World} {v:Value} {s:List UInt8} {fp fp':Nat→Prop} (h:BytesAt w v s fp) (hk : ∀ b,fp b→b<w.heap.size→w'.heap[b]? = w.heap[b]?) (hf : ∀ b,fp b→b<w.heap.size→fp' b):BytesAt w' v s fp':=by
 obtain ⟨A,cap,h1,h2,h3,h4,h4',h5⟩:=h
 refine ⟨A,cap,h1,h2,h3,h4,h4',fun hn=>?_⟩
 obtain ⟨b,off,cs,fz,h6,h6',h7,h8⟩:=h5 hn
 have hl:=(Array.getElem?_eq_some_iff.1 h7).1
 exact ⟨b,off,cs,fz,h6,hf b h6' hl,(hk _ h6' hl).trans h7,h8⟩
theorem BytesAt.bel {w w':World} {v:Value} {s:List UInt8} {fp:Nat→Prop} (h:BytesAt w v s fp) (hb:Bel w w'):BytesAt w' v s fp:=h.kept (fun b _ hl=>hb.block b hl) (fun _ h _=>h)
theorem BytesAt.mono {w:World} {v:Value} {s:List UInt8} {fp fp':Nat→Prop} (h:BytesAt w v s fp) (hf : ∀ b,fp b→b<w.heap.size→fp' b):BytesAt w v s fp':=h.kept (fun _ _ _=>rfl) hf
theorem BytesAt.reads {w:World} {A:Option Addr} {n cap:Nat} {s:List UInt8} {fp:Nat→Prop} (h:BytesAt w (.slice A n cap) s fp):n=s.length∧Reads w w.heap.size 1 A s.length (s.map bv):=by
 obtain ⟨A',cap',h1,h2,h3,h4,h4',h5⟩:=h
 simp only [Value.slice.injEq] at h1
 obtain ⟨rfl,rfl,rfl⟩:=h1
 refine ⟨rfl,by simp,fun hn=>?_⟩
 obtain ⟨b,off,cs,fz,rfl,_,h7,h8⟩:=h5 hn
 refine ⟨_,rfl,(Array.getElem?_eq_some_iff.1 h7).1,fun j u hu=>?_⟩
 rw [List.getElem?_map] at hu
 cases hs:s[j]? with
 | none=>rw [hs] at hu;simp at hu
 | some c =>
   rw [hs] at hu
   simp at hu
   subst hu
   have:=h8 j c hs
   have e:(Addr.add ⟨b,off,none⟩ j)=⟨b,off+j,none⟩:=by unfold Addr.add;split <;> simp_all
   rw [e]
   simp [World.cell?,h7,this]
theorem BytesAt.of_own {w:World} {base n:Nat} {v:Value} {s:List UInt8} (h:w.ownsRow base 5 1 v n (s.map bv)):BytesAt w v s (fun b=>base≤b):=by
 obtain ⟨hl,h⟩:=h
 simp at hl
 rcases h with ⟨rfl,rfl⟩ | ⟨g,cap,cur,rfl,hbg,hg,h2,h3,h4,h5⟩
 ·have:s=[]:=List.eq_nil_of_length_eq_zero hl
  subst this
  exact BytesAt.nil w _
 ·subst hl
  refine ⟨_,cap,rfl,h2,h3,(fun h=>by cases h),(fun a e=>by cases e;rfl),fun hn=>⟨g,0,cur,_,rfl,hbg,hg,fun j c hj=>?_⟩⟩
  have:(s.map bv)[j]? = some (bv c):=by simp [hj]
  rw [← h5] at this
  rw [List.getElem?_take] at this
  split at this
  ·simpa using this
  ·simp at this
theorem BytesAt.take {w:World} {A:Option Addr} {n cap:Nat} {s:List UInt8} {fp:Nat→Prop} (h:BytesAt w (.slice A n cap) s fp) (k:Nat) (hk:k≤n):BytesAt w (.slice A k k) (s.take k) fp:=by
 obtain ⟨A',cap',h1,h2,h3,h4,h4',h5⟩:=h
 simp only [Value.slice.injEq] at h1
 obtain ⟨rfl,rfl,rfl⟩:=h1
 have hl:(s.take k).length=k:=by simp;omega
 refine ⟨A,k,by rw [hl],by omega,by omega,fun ha=>by have:=h4 ha;omega,h4',fun hn=>?_⟩
 obtain ⟨b,off,cs,fz,h6,h6',h7,h8⟩:=h5 (by omega)
 exact ⟨b,off,cs,fz,h6,h6',h7,fun j c hj=>h8 j c (by rw [List.getElem?_take] at hj;split at hj;exact hj;simp at hj)⟩
theorem BytesAt.len {w:World} {A:Option Addr} {n cap:Nat} {s:List UInt8} {fp:Nat→Prop} (h:BytesAt w (.slice A n cap) s fp):n=s.length:=h.reads.1
theorem infoU8:(Tryz.prog.info? 5).map (fun i=>(i.zero,i.size,i.bytes))=some (some (.int .u8 0),1,1):=by kernel_rfl
theorem bv_one (s:List UInt8) : ∀ u ∈ s.map bv,u.oneCell'=true:=by
 intro u hu
 obtain ⟨c,_,rfl⟩:=List.mem_map.1 hu
 rfl
end
section
open Go.RowKit
def bl (n:Nat):Nat:=if n=0 then 0 else n.log2+1
def needN (n:Nat):Nat:=(bl n+7) / 8
theorem bl_le_iff (n k:Nat):bl n≤k ↔ n<2 ^ k:=by
 unfold bl
 by_cases h:n=0
 ·subst h;simp [Nat.pow_pos]
 ·rw [if_neg h]
  rw [← Nat.log2_lt h]
  omega
theorem bl_lt_iff (n k:Nat):k<bl n ↔ 2 ^ k≤n:=by
 have:=bl_le_iff n k
 omega
theorem bl_shift (n k:Nat) (h : 2 ^ k≤n):bl n=k+bl (n / 2 ^ k):=by
 apply Nat.le_antisymm
 ·rw [bl_le_iff,Nat.pow_add]
  have h1:n / 2 ^ k<2 ^ bl (n / 2 ^ k):=(bl_le_iff _ _).1 (Nat.le_refl _)
  rw [Nat.div_lt_iff_lt_mul (Nat.pow_pos (by decide))] at h1
  rw [Nat.mul_comm];exact h1
 ·have hp : 0<n / 2 ^ k:=Nat.div_pos h (Nat.pow_pos (by decide))
  have hb : 0<bl (n / 2 ^ k):=by rw [bl_lt_iff];exact hp
  obtain ⟨j,hj⟩ : ∃ j,bl (n / 2 ^ k)=j+1:=⟨bl (n / 2 ^ k) - 1,by omega⟩
  have h2 : 2 ^ j≤n / 2 ^ k:=(bl_lt_iff _ _).1 (by omega)
  have h3:k+j<bl n:=by
   rw [bl_lt_iff,Nat.pow_add]
   calc 2 ^ k * 2 ^ j≤2 ^ k * (n / 2 ^ k):=Nat.mul_le_mul_left _ h2
    _≤n:=Nat.mul_div_le _ _
  omega
theorem needN_le_iff (n k:Nat):needN n≤k ↔ n<256 ^ k:=by
 have:(256:Nat) ^ k=2 ^ (8 * k):=by rw [Nat.pow_mul]
 rw [this,← bl_le_iff]
 unfold needN
 omega
def beN (n:Nat):Nat→List UInt8
 | 0=>[]
 | k+1=>UInt8.ofNat (n / 256 ^ k % 256) :: beN n k
theorem beN_length (n:Nat) : ∀ k,(beN n k).length=k
 | 0=>rfl
 | k+1=>by rw [beN,List.length_cons,beN_length n k]
def numN (s:List UInt8):Nat:=s.foldl (fun n c=>n * 256+c.toNat) 0
theorem numN_snoc (s:List UInt8) (c:UInt8):numN (s ++ [c])=numN s * 256+c.toNat:=by simp [numN]
theorem numN_lt (s:List UInt8):numN s<256 ^ s.length:=by
 have : ∀ (l:List UInt8),numN l.reverse<256 ^ l.length:=by
  intro l
  induction l with
  | nil=>simp [numN]
  | cons c l ih =>
    rw [List.reverse_cons,numN_snoc,List.length_cons,Nat.pow_succ]
    have:=c.toNat_lt
    have h2:(numN l.reverse+1) * 256≤256 ^ l.length * 256:=Nat.mul_le_mul_right _ ih
    omega
 have h:=this s.reverse
 simpa using h
theorem beN_num (n:Nat) : ∀ k,n<256 ^ k→numN (beN n k)=n:=by
 have key : ∀ k m,(beN n k).foldl (fun n c=>n * 256+c.toNat) m=m * 256 ^ k+n % 256 ^ k:=by
  intro k
  induction k with
  | zero=>intro m;simp [beN,Nat.mod_one]
  | succ k ih =>
    intro m
    rw [beN,List.foldl_cons,ih]
    have h1:(UInt8.ofNat (n / 256 ^ k % 256)).toNat=n / 256 ^ k % 256:=by simp
    rw [h1]
    have h2:n % 256 ^ (k+1)=256 ^ k * (n / 256 ^ k % 256)+n % 256 ^ k:=by
     rw [Nat.pow_succ,Nat.mod_mul]
     omega
    rw [h2,Nat.pow_succ,Nat.add_mul,Nat.mul_assoc,Nat.mul_comm 256 (256 ^ k),Nat.mul_comm (n / 256 ^ k % 256)]
    omega
 intro k hk
 have:=key k 0
 unfold numN
 rw [this,Nat.mod_eq_of_lt hk]
 omega
theorem wrap_u64 (x:Nat) (h:x<2 ^ 64):IntKind.u64.wrap (x:Int)=x:=by
 simp only [IntKind.wrap,IntKind.bits,IntKind.signed]
 simp
 omega
theorem bits_or_u64 (x y:Nat) (hx:x<2 ^ 64) (hy:y<2 ^ 64):bits .or .u64 (x:Int) (y:Int)=((x ||| y:Nat):Int):=by
 unfold bits
 have e:(BitVec.ofInt 64 (x:Int) ||| BitVec.ofInt 64 (y:Int)).toNat=x ||| y:=by
  simp [BitVec.toNat_or,BitVec.toNat_ofInt]
  rw [Nat.mod_eq_of_lt (show x<18446744073709551616 from hx),Nat.mod_eq_of_lt (show y<18446744073709551616 from hy)]
 show IntKind.u64.wrap ((BitVec.ofInt 64 (x:Int) ||| BitVec.ofInt 64 (y:Int)).toNat:Int)=_
 rw [e]
 exact wrap_u64 _ (Nat.or_lt_two_pow hx hy)
theorem or_byte (m c:Nat) (hc:c<256):m * 256 ||| c=m * 256+c:=by
 have:=Nat.shiftLeft_add_eq_or_of_lt (i:=8) (b:=c) hc m
 rw [Nat.shiftLeft_eq] at this
 exact this.symm
open Go.RowKit
set_option maxRecDepth 100000 in
set_option maxHeartbeats 2000000 in
theorem len64_000 (n:Nat) (h64:n<2 ^ 64) (h32:n<4294967296) (h16:n<65536) (h8:n<256) (w:World):Calls Tryz.prog 89 #[.int .u64 n] w fun e w'=>e = .returned (.int .i64 (0+bl n:Nat))∧w=w':=by
 have hlt:n<256:=by omega
 have g32:decide ((n:Int) ≥ 4294967296)=false:=by simp;omega
 have g16:decide ((n:Int) ≥ 65536)=false:=by simp;omega
 have g8:decide ((n:Int) ≥ 256)=false:=by simp;omega
 clear h64 h32 h16 h8 
 go_enter Tryz.func89,Tryz.ntmps89
 go_wp2
 go_ret
 refine ⟨ret_int ?_,rfl⟩
 clear g32 g16 g8
 skip
 revert hlt
 revert n
 intro m h hlt
 revert h
 revert hlt
 revert m
 decide +kernel
set_option maxRecDepth 100000 in
set_option maxHeartbeats 2000000 in
theorem len64_001 (n:Nat) (h64:n<2 ^ 64) (h32:n<4294967296) (h16:n<65536) (h8 : 256≤n) (m8:Nat) (e8:m8=n / 256) (w:World):Calls Tryz.prog 89 #[.int .u64 n] w fun e w'=>e = .returned (.int .i64 (8+bl m8:Nat))∧w=w':=by
 have hlt:m8<256:=by omega
 have g32:decide ((n:Int) ≥ 4294967296)=false:=by simp;omega
 have g16:decide ((n:Int) ≥ 65536)=false:=by simp;omega
 have g8:decide ((n:Int) ≥ 256)=true:=by simp;omega
 have d8:(n:Int) / 256=(m8:Int):=by omega
 clear h64 h32 h16 h8 e8
 go_enter Tryz.func89,Tryz.ntmps89
 go_wp2
 go_ret
 refine ⟨ret_int ?_,rfl⟩
 clear g32 g16 g8
 clear d8
 revert hlt
 revert m8
 intro m h hlt
 revert h
 revert hlt
 revert m
 decide +kernel
set_option maxRecDepth 100000 in
set_option maxHeartbeats 2000000 in
theorem len64_010 (n:Nat) (h64:n<2 ^ 64) (h32:n<4294967296) (h16 : 65536≤n) (m16:Nat) (e16:m16=n / 65536) (h8:m16<256) (w:World):Calls Tryz.prog 89 #[.int .u64 n] w fun e w'=>e = .returned (.int .i64 (16+bl m16:Nat))∧w=w':=by
 have hlt:m16<256:=by omega
 have g32:decide ((n:Int) ≥ 4294967296)=false:=by simp;omega
 have g16:decide ((n:Int) ≥ 65536)=true:=by simp;omega
 have d16:(n:Int) / 65536=(m16:Int):=by omega
 have g8:decide ((m16:Int) ≥ 256)=false:=by simp;omega
 clear h64 h32 h16 h8 e16
 go_enter Tryz.func89,Tryz.ntmps89
 go_wp2
 go_ret
 refine ⟨ret_int ?_,rfl⟩
 clear g32 g16 g8
 clear d16
 revert hlt
 revert m16
 intro m h hlt
 revert h
 revert hlt
 revert m
 decide +kernel
set_option maxRecDepth 100000 in
set_option maxHeartbeats 2000000 in
theorem len64_011 (n:Nat) (h64:n<2 ^ 64) (h32:n<4294967296) (h16 : 65536≤n) (m16:Nat) (e16:m16=n / 65536) (h8 : 256≤m16) (m8:Nat) (e8:m8=m16 / 256) (w:World):Calls Tryz.prog 89 #[.int .u64 n] w fun e w'=>e = .returned (.int .i64 (24+bl m8:Nat))∧w=w':=by
 have hlt:m8<256:=by omega
 have g32:decide ((n:Int) ≥ 4294967296)=false:=by simp;omega
 have g16:decide ((n:Int) ≥ 65536)=true:=by simp;omega
 have d16:(n:Int) / 65536=(m16:Int):=by omega
 have g8:decide ((m16:Int) ≥ 256)=true:=by simp;omega
 have d8:(m16:Int) / 256=(m8:Int):=by omega
 clear h64 h32 h16 h8 e16 e8
 go_enter Tryz.func89,Tryz.ntmps89
 go_wp2
 go_ret
 refine ⟨ret_int ?_,rfl⟩
 clear g32 g16 g8
 clear d16 d8
 revert hlt
 revert m8
 intro m h hlt
 revert h
 revert hlt
 revert m
 decide +kernel
set_option maxRecDepth 100000 in
set_option maxHeartbeats 2000000 in
theorem len64_100 (n:Nat) (h64:n<2 ^ 64) (h32 : 4294967296≤n) (m32:Nat) (e32:m32=n / 4294967296) (h16:m32<65536) (h8:m32<256) (w:World):Calls Tryz.prog 89 #[.int .u64 n] w fun e w'=>e = .returned (.int .i64 (32+bl m32:Nat))∧w=w':=by
 have hlt:m32<256:=by omega
 have g32:decide ((n:Int) ≥ 4294967296)=true:=by simp;omega
 have d32:(n:Int) / 4294967296=(m32:Int):=by omega
 have g16:decide ((m32:Int) ≥ 65536)=false:=by simp;omega
 have g8:decide ((m32:Int) ≥ 256)=false:=by simp;omega
 clear h64 h32 h16 h8 e32
 go_enter Tryz.func89,Tryz.ntmps89
 go_wp2
 go_ret
 refine ⟨ret_int ?_,rfl⟩
 clear g32 g16 g8
 clear d32
 revert hlt
 revert m32
 intro m h hlt
 revert h
 revert hlt
 revert m
 decide +kernel
set_option maxRecDepth 100000 in
set_option maxHeartbeats 2000000 in
theorem len64_101 (n:Nat) (h64:n<2 ^ 64) (h32 : 4294967296≤n) (m32:Nat) (e32:m32=n / 4294967296) (h16:m32<65536) (h8 : 256≤m32) (m8:Nat) (e8:m8=m32 / 256) (w:World):Calls Tryz.prog 89 #[.int .u64 n] w fun e w'=>e = .returned (.int .i64 (40+bl m8:Nat))∧w=w':=by
 have hlt:m8<256:=by omega
 have g32:decide ((n:Int) ≥ 4294967296)=true:=by simp;omega
 have d32:(n:Int) / 4294967296=(m32:Int):=by omega
 have g16:decide ((m32:Int) ≥ 65536)=false:=by simp;omega
 have g8:decide ((m32:Int) ≥ 256)=true:=by simp;omega
 have d8:(m32:Int) / 256=(m8:Int):=by omega
 clear h64 h32 h16 h8 e32 e8
 go_enter Tryz.func89,Tryz.ntmps89
 go_wp2
 go_ret
 refine ⟨ret_int ?_,rfl⟩
 clear g32 g16 g8
 clear d32 d8
 revert hlt
 revert m8
 intro m h hlt
 revert h
 revert hlt
 revert m
 decide +kernel
set_option maxRecDepth 100000 in
set_option maxHeartbeats 2000000 in
theorem len64_110 (n:Nat) (h64:n<2 ^ 64) (h32 : 4294967296≤n) (m32:Nat) (e32:m32=n / 4294967296) (h16 : 65536≤m32) (m16:Nat) (e16:m16=m32 / 65536) (h8:m16<256) (w:World):Calls Tryz.prog 89 #[.int .u64 n] w fun e w'=>e = .returned (.int .i64 (48+bl m16:Nat))∧w=w':=by
 have hlt:m16<256:=by omega
 have g32:decide ((n:Int) ≥ 4294967296)=true:=by simp;omega
 have d32:(n:Int) / 4294967296=(m32:Int):=by omega
 have g16:decide ((m32:Int) ≥ 65536)=true:=by simp;omega
 have d16:(m32:Int) / 65536=(m16:Int):=by omega
 have g8:decide ((m16:Int) ≥ 256)=false:=by simp;omega
 clear h64 h32 h16 h8 e32 e16
 go_enter Tryz.func89,Tryz.ntmps89
 go_wp2
 go_ret
 refine ⟨ret_int ?_,rfl⟩
 clear g32 g16 g8
 clear d32 d16
 revert hlt
 revert m16
 intro m h hlt
 revert h
 revert hlt
 revert m
 decide +kernel
set_option maxRecDepth 100000 in
set_option maxHeartbeats 2000000 in
theorem len64_111 (n:Nat) (h64:n<2 ^ 64) (h32 : 4294967296≤n) (m32:Nat) (e32:m32=n / 4294967296) (h16 : 65536≤m32) (m16:Nat) (e16:m16=m32 / 65536) (h8 : 256≤m16) (m8:Nat) (e8:m8=m16 / 256) (w:World):Calls Tryz.prog 89 #[.int .u64 n] w fun e w'=>e = .returned (.int .i64 (56+bl m8:Nat))∧w=w':=by
 have hlt:m8<256:=by omega
 have g32:decide ((n:Int) ≥ 4294967296)=true:=by simp;omega
 have d32:(n:Int) / 4294967296=(m32:Int):=by omega
 have g16:decide ((m32:Int) ≥ 65536)=true:=by simp;omega
 have d16:(m32:Int) / 65536=(m16:Int):=by omega
 have g8:decide ((m16:Int) ≥ 256)=true:=by simp;omega
 have d8:(m16:Int) / 256=(m8:Int):=by omega
 clear h64 h32 h16 h8 e32 e16 e8
 go_enter Tryz.func89,Tryz.ntmps89
 go_wp2
 go_ret
 refine ⟨ret_int ?_,rfl⟩
 clear g32 g16 g8
 clear d32 d16 d8
 revert hlt
 revert m8
 intro m h hlt
 revert h
 revert hlt
 revert m
 decide +kernel
theorem len64_any (n:Nat) (h64:n<2 ^ 64) (w:World):Calls Tryz.prog 89 #[.int .u64 n] w fun e w'=>e = .returned (.int .i64 (bl n))∧w=w':=by
 by_cases a : 4294967296≤n
 ·rw [bl_shift n 32 a]
  by_cases b : 65536≤n / 4294967296
  ·rw [bl_shift (n / 2 ^ 32) 16 b]
   by_cases c : 256≤n / 4294967296 / 65536
   ·rw [bl_shift (n / 2 ^ 32 / 2 ^ 16) 8 c]
    have:=len64_111 n h64 a _ rfl b _ rfl c _ rfl w
    rwa [show 56+bl (n / 4294967296 / 65536 / 256)=32+(16+(8+bl (n / 2 ^ 32 / 2 ^ 16 / 2 ^ 8))) by simp only [← Nat.add_assoc];try rfl] at this
   ·have:=len64_110 n h64 a _ rfl b _ rfl (by omega) w
    rwa [show 48+bl (n / 4294967296 / 65536)=32+(16+bl (n / 2 ^ 32 / 2 ^ 16)) by simp only [← Nat.add_assoc];try rfl] at this
  ·by_cases c : 256≤n / 4294967296
   ·rw [bl_shift (n / 2 ^ 32) 8 c]
    have:=len64_101 n h64 a _ rfl (by omega) c _ rfl w
    rwa [show 40+bl (n / 4294967296 / 256)=32+(8+bl (n / 2 ^ 32 / 2 ^ 8)) by simp only [← Nat.add_assoc];try rfl] at this
   ·exact len64_100 n h64 a _ rfl (by omega) (by omega) w
 ·by_cases b : 65536≤n
  ·rw [bl_shift n 16 b]
   by_cases c : 256≤n / 65536
   ·rw [bl_shift (n / 2 ^ 16) 8 c]
    have:=len64_011 n h64 (by omega) b _ rfl c _ rfl w
    rwa [show 24+bl (n / 65536 / 256)=16+(8+bl (n / 2 ^ 16 / 2 ^ 8)) by simp only [← Nat.add_assoc];try rfl] at this
   ·exact len64_010 n h64 (by omega) b _ rfl (by omega) w
  ·by_cases c : 256≤n
   ·rw [bl_shift n 8 c]
    exact len64_001 n h64 (by omega) (by omega) c _ rfl w
   ·have:=len64_000 n h64 (by omega) (by omega) (by omega) w
    rwa [Nat.zero_add] at this
theorem need_any (n:Nat) (h64:n<2 ^ 64) (w:World):Calls Tryz.prog 56 #[.int .u64 n] w fun e w'=>e = .returned (.int .i64 (needN n))∧w=w':=by
 have HL:=Lib.hid (len64_any n h64 w)
 have hb:bl n≤64:=(bl_le_iff n 64).2 h64
 clear h64
 go_enter Tryz.func56,Tryz.ntmps56
 go_wp2_with (go_at_call 89;refine HL.out.mono ?_;rintro e w' ⟨rfl,rfl⟩)
 go_ret
 refine ⟨ret_int ?_,rfl⟩
 unfold needN
 omega
open Go.RowKit
theorem ofC_any (n:Nat) (i:Nat) (hi:i<8) (b:Nat) (w:World) (hc:w.cell? ⟨b,0,none⟩=some (.int .u64 n)):Calls Tryz.prog 90 #[.int .i64 i,.pointer (some ⟨b,0,none⟩)] w fun e w'=>e = .returned (.int .u8 ((n / 256 ^ i % 256:Nat):Int))∧w=w':=by
 go_enter Tryz.func90,Tryz.ntmps90
 go_wp2
 go_ret
 refine ⟨ret_int ?_,rfl⟩
 have e:(256:Nat) ^ i=2 ^ (8 * i):=by rw [Nat.pow_mul]
 rw [e]
 simp
theorem of_any (n:Nat) (w:World):Calls Tryz.prog 57 #[.int .u64 n] w fun e w'=>e = .returned (.func (.func 90) #[] #[.pointer (some ⟨w.heap.size,0,none⟩)])∧w.alloc (.cells #[.int .u64 n] 62)=w':=by
 go_enter Tryz.func57,Tryz.ntmps57
 go_wp2
 go_ret
 exact ⟨rfl,rfl⟩
set_option maxRecDepth 100000 in
theorem number_any (s:List UInt8) (A:Option Addr) (cap:Nat) (hs:s.length≤8) (w:World) (hr:Reads w w.heap.size 1 A s.length (s.map bv)):Calls Tryz.prog 117 #[.slice A s.length cap] w fun e w'=>e = .returned (.int .u64 (numN s))∧w=w':=by
 have HR:=Lib.hid hr
 have hlen:(s.length:Int)≤8:=by omega
 clear hr hs
 go_enter Tryz.func117,Tryz.ntmps117
 go_wp2
 go_loopw [2,7] (fun v i wr=>∃ k:Nat,k≤s.length∧i = .int .i64 k∧v = .int .u64 (numN (s.take k))∧wr=w) (fun _ i _=>s.length - (intOf i).toNat)
 case atStart=>exact ⟨0,Nat.zero_le _,rfl,rfl,rfl⟩
 case round =>
  obtain ⟨k,hk,rfl,rfl,rfl⟩:=hrel
  by_cases hlt:k<s.length
  ·obtain ⟨ad,u,hA,hb,hu,hc⟩:=HR.out.at_ (k:=k) hlt
   obtain ⟨c,hck⟩ : ∃ c,s[k]? = some c:=⟨_,List.getElem?_eq_getElem hlt⟩
   have huc:u=bv c:=by rw [List.getElem?_map,hck] at hu;simpa using hu.symm
   subst hA
   subst huc
   have hcc:wr.cell? (ad.add k)=some (.int .u8 c.toNat):=hc
   have hnum:numN (s.take (k+1))=numN (s.take k) * 256+c.toNat:=by rw [List.take_add_one,hck];exact numN_snoc _ _
   have hl:numN (s.take k)<256 ^ 7:=Nat.lt_of_lt_of_le (numN_lt _) (Nat.pow_le_pow_right (by decide) (by simp;omega))
   have hc256:c.toNat<256:=c.toNat_lt
   have hcI:(c.toNat:Int)<256:=by omega
   generalize numN (s.take k)=m at *
   have hor:bits .or .u64 ((m:Int) * 256) (c.toNat:Int)=((m * 256+c.toNat:Nat):Int):=by
    have h1:m * 256<2 ^ 64:=by have:(256:Nat) ^ 7 * 256=2 ^ 64:=by decide
                               omega
    have:=bits_or_u64 (m * 256) c.toNat h1 (by omega)
    rw [or_byte _ _ hc256] at this
    rw [← this]
    simp
   clear hck hu hc hb HR
   go_wp2
   go_roundw
   case rel=>exact ⟨k+1,by omega,by go_num,by rw [hnum];simp,trivial⟩
   case measure=>simp [intOf];omega
  ·obtain rfl:k=s.length:=by omega
   go_wp2
   go_ret
   exact ⟨by simp,rfl⟩
theorem reads1 (w:World) (T:TypeId) (u:Value):Reads (w.alloc (.cells #[u] T)) (w.heap.size+1) 1 (some ⟨w.heap.size,0,none⟩) 1 [u]:=by
 refine ⟨rfl,fun _=>⟨_,rfl,by simp,fun j x hx=>?_⟩⟩
 have hj:j=0:=by have:=(List.getElem?_eq_some_iff.1 hx).1;simpa using this
 subst hj
 simp at hx
 subst hx
 simp [Addr.add]
theorem beN_at (n:Nat) : ∀ (k j:Nat),j<k→(beN n k)[j]? = some (UInt8.ofNat (n / 256 ^ (k - 1 - j) % 256))
 | 0,j,h=>by omega
 | k+1,0,_=>by simp [beN]
 | k+1,j+1,h=>by
   rw [beN,List.getElem?_cons_succ,beN_at n k j (by omega)]
   congr 5
   omega
def GivesRow (base n:Nat) (xs:List Value) (w:World) (e:Ending) (w':World):Prop:=∃ A c,e = .returned (.slice A n c)∧w'.ownsRow base 5 1 (.slice A n c) n xs∧Below base w w'
set_option maxRecDepth 100000 in
set_option maxHeartbeats 1000000 in
theorem laid_any (n many:Nat) (hm:many≤8) (b base:Nat) (hb:b<base) (A:Option Addr) (m c:Nat) (xs:List Value) (hx:m≤1000) (w:World) (hbase:base≤w.heap.size) (hown:w.ownsRow base 5 1 (.slice A m c) m xs) (hc:w.cell? ⟨b,0,none⟩=some (.int .u64 n)) :
 Calls Tryz.prog 55 #[.slice A m c,.int .i64 many,.func (.func 90) #[] #[.pointer (some ⟨b,0,none⟩)]] w (GivesRow base (m+many) (xs ++ (beN n many).map bv) w):=by
 obtain ⟨i0,hi0,hz0,hz1,hz2⟩:=info_parts infoU8
 have HOWN:=Lib.hid hown
 have HC:=Lib.hid hc
 have hb0:b<w.heap.size:=by omega
 have hmI:(many:Int)≤8:=by omega
 clear hown hc
 go_enter Tryz.func55,Tryz.ntmps55
 go_wp2
 go_loopw [0,7] (fun v i wr=>∃ (k:Nat) (A:Option Addr) (c:Nat),k≤many∧i = .int .i64 ((many:Int) - 1 - k)∧v = .slice A (m+k) c∧Hid (wr.ownsRow base 5 1 (.slice A (m+k) c) (m+k) (xs ++ ((beN n many).take k).map bv)∧Below base w wr)∧base≤wr.heap.size) (fun _ i _=>(intOf i+1).toNat)
 case atStart=>exact ⟨0,A,c,Nat.zero_le _,by simp,rfl,⟨by simpa using HOWN.out,Below.refl _ _⟩,hbase⟩
 case round =>
  obtain ⟨k,A,c,hk,rfl,rfl,HR,hsz⟩:=hrel
  by_cases hlt:k<many
  ·have hcr:wr.cell? ⟨b,0,none⟩=some (.int .u64 n):=(HR.out.2.cell (p:=⟨b,0,none⟩) hb).trans HC.out
   have hge:decide ((many:Int) - 1 - k ≥ 0)=true:=by simp;omega
   have HOC:=Lib.hid (ofC_any n (many - 1 - k) (by omega) b wr hcr)
   have hcast:((many - 1 - k:Nat):Int)=(many:Int) - 1 - k:=by omega
   rw [hcast] at HOC
   have hval:bv (UInt8.ofNat (n / 256 ^ (many - 1 - k) % 256)) = .int .u8 ((n / 256 ^ (many - 1 - k) % 256:Nat):Int):=by
    unfold bv
    simp
   have hnext:(xs ++ ((beN n many).take k).map bv) ++ [.int .u8 ((n / 256 ^ (many - 1 - k) % 256:Nat):Int)]=xs ++ ((beN n many).take (k+1)).map bv:=by
    rw [List.take_add_one,beN_at n many k hlt,List.map_append,← List.append_assoc,← hval]
    rfl
   generalize hvv:((n / 256 ^ (many - 1 - k) % 256:Nat):Int)=vv at *
   have HNX:=Lib.hid hnext
   clear hcast hval hnext hcr
   go_wp2_with (first | (go_at_call 90;refine HOC.out.mono ?_;rintro e w' ⟨rfl,rfl⟩) | (at_builtin;refine wpList_append_any _ rfl (.tmp 14) (.tmp 18) _ rfl base 5 i0 _ 1 1 Tryz.underlying34 hi0 hz0 hz1 hz2 rfl (by omega) (.slice A (m+k) c) (m+k) (xs ++ ((beN n many).take k).map bv) rfl ?c1 (wr.heap.size+1) (some ⟨wr.heap.size,0,none⟩) 1 1 [.int .u8 vv] rfl ?c2 ?c3 ?c4 ?c5 ?c6 ?_))
   case c1=>exact HR.out.1.alloc _
   case c2=>exact reads1 wr _ _
   case c3=>simp [Value.oneCell']
   case c4=>unfold maxLen;omega
   case c5=>omega
   case c6=>simp;omega
   intro v1 w1 hown1 hg1 hat1
   have hown2:w1.ownsRow base 5 1 v1 (m+k+1) (xs ++ ((beN n many).take (k+1)).map bv):=by rw [← HNX.out];simpa using hown1
   obtain ⟨g,cap',rfl⟩:=ownsRow_succ hown2
   have hB1:Below base w w1:=HR.out.2.trans (((Below.refl base wr).alloc hsz _).trans (Below.grown (Below.refl _ _) hg1 (by simp;omega) (fun j e=>by have:=(HR.out.1.lt j e).1;omega)))
   have HO1:=Lib.hid hown2
   have HB1:=Lib.hid hB1
   have hs1:base≤w1.heap.size:=by have:=hg1.size;simp at this;omega
   clear hown1 hown2 hg1 hat1 hB1
   go_wp2
   go_roundw
   case rel=>exact ⟨k+1,_,_,by omega,by go_num,rfl,⟨HO1.out,HB1.out⟩,hs1⟩
   case measure=>simp [intOf];omega
  ·obtain rfl:k=many:=by omega
   go_wp2
   go_ret
   refine ⟨A,c,rfl,?_,HR.out.2⟩
   have:=HR.out.1
   rwa [List.take_of_length_le (by rw [beN_length];exact Nat.le_refl _)] at this
open Go.RowKit
theorem ownsRow_base {w:World} {b b':Nat} {e:TypeId} {size n:Nat} {v:Value} {xs:List Value} (h:w.ownsRow b' e size v n xs) (hb:b≤b'):w.ownsRow b e size v n xs :=
 ⟨h.1,h.2.elim .inl (fun ⟨g,cap,cur,hv,hg,r⟩=>.inr ⟨g,cap,cur,hv,Nat.le_trans hb hg,r⟩)⟩
def GivesFixed (n many:Nat) (w:World) (e:Ending) (w':World):Prop:=∃ A c,e = .returned (.tuple #[.slice A many c,.int .i64 0])∧w'.ownsRow w.heap.size 5 1 (.slice A many c) many ((beN n many).map bv)∧Bel w w'
theorem fixed_any (n many:Nat) (hn:n<2 ^ 64) (h1 : 1≤many) (h8:many≤8) (hneed:n<256 ^ many) (w:World):Calls Tryz.prog 157 #[.int .u64 n,.int .i64 many] w (GivesFixed n many w):=by
 have HN:=Lib.hid (need_any n hn w)
 have g1:decide ((many:Int)<1)=false:=by simp;omega
 have g2:decide ((many:Int) > 8)=false:=by simp;omega
 have hk:needN n≤many:=(needN_le_iff n many).2 hneed
 have g3:decide ((many:Int)<needN n)=false:=by simp;omega
 have HL:=Lib.hid (laid_any n many h8 w.heap.size (w.heap.size+1) (by omega) none 0 0 [] (by omega) (w.alloc (.cells #[.int .u64 n] 62)) (by simp) (World.ownsRow_nil _ _ _ _) (by simp))
 have hk4 : ¬ many<needN n:=by omega
 clear hn hneed hk
 go_enter Tryz.func157,Tryz.ntmps157
 go_wp2_with (first | (go_at_call 56;refine HN.out.mono ?_;rintro e w' ⟨rfl,rfl⟩) | (go_at_call 57;refine (of_any n _).mono ?_;rintro e w' ⟨rfl,rfl⟩) | (go_at_call 55;refine HL.out.mono ?_;rintro e w1 ⟨A,c,rfl,hown,hbel⟩))
 go_ret2
 refine ⟨A,c,by simp,?_,((Bel.refl w).alloc _).trans (Below.mono hbel (Nat.le_succ _))⟩
 have:=ownsRow_base hown (Nat.le_succ _)
 simpa using this
theorem readFixed_any (s:List UInt8) (A:Option Addr) (cap:Nat) (h1 : 1≤s.length) (h8:s.length≤8) (w:World) (hr:Reads w w.heap.size 1 A s.length (s.map bv)):Calls Tryz.prog 160 #[.slice A s.length cap] w fun e w'=>e = .returned (.tuple #[.int .u64 (numN s),.int .i64 0])∧w=w':=by
 have HN:=Lib.hid (number_any s A cap h8 w hr)
 have g1:decide ((s.length:Int)<1)=false:=by simp;omega
 have g2:decide ((s.length:Int) > 8)=false:=by simp;omega
 clear hr h1 h8
 go_enter Tryz.func160,Tryz.ntmps160
 go_wp2_with (go_at_call 117;refine HN.out.mono ?_;rintro e w' ⟨rfl,rfl⟩)
 go_ret2
 exact ⟨rfl,rfl⟩
end
section
open Go.RowKit Go.Extern.Stop Go.Stop Go.Extern
theorem asValueOfP (t:Addr) (w:World):(ReflectliteValue.unpack (.iface 85 (.pointer (some t)))).run Tryz.prog w
 = .ok (.agg #[.pointer (some ⟨4,85,none⟩),.pointer (some ⟨w.heap.size,0,none⟩),.int .u64 150]) (w.alloc (.cells #[.pointer (some t)] 85)):=by kernel_rfl
theorem asTypeP (a:Addr) (w:World):(ReflectliteValue.methodAny (ReflectliteValue.valueError "reflectlite.Value.Type" 0) (fun t _ _ _=>ReflectliteType.toType t) #[.agg #[.pointer (some ⟨4,85,none⟩),.pointer (some a),.int .u64 150]]).run Tryz.prog w
 = .ok (.iface 279 (.agg #[.pointer (some ⟨4,85,none⟩)])) w:=by kernel_rfl
theorem asMKind (h:Value) (w:World):(Go.method 424 279 (.agg #[h]) "Kind").run Tryz.prog w = .ok (247,h) w:=by kernel_rfl
theorem asKindP (w:World):((ReflectliteType.abiMethod fun t=>(fun a:Nat=>Value.int IntKind.u8 (a:Int)) <$> Rtype.kind t) #[.pointer (some ⟨4,85,none⟩)]).run Tryz.prog w = .ok (.int .u8 22) w:=by kernel_rfl
theorem asKindE (w:World):((ReflectliteType.abiMethod fun t=>(fun a:Nat=>Value.int IntKind.u8 (a:Int)) <$> Rtype.kind t) #[.pointer (some ⟨4,35,none⟩)]).run Tryz.prog w = .ok (.int .u8 2) w:=by kernel_rfl
theorem asRlm (z:Sem Value) (f:TypeId→Addr→Nat→Nat→Sem Value) (v:Value) :
 ReflectliteValue.method z f #[v]=(do match ← ReflectliteValue.parts v with | none=>z | some (t,a,fl)=>f t a fl (fl % 32)):=rfl
theorem asPartsP (a:Addr) (w:World):(ReflectliteValue.parts (.agg #[.pointer (some ⟨4,85,none⟩),.pointer (some a),.int .u64 150])).run Tryz.prog w = .ok (some (85,a,150)) w:=by kernel_rfl
theorem asIsNilP (a p:Addr) (W:World) (ha:W.cell? a=some (.pointer (some p))) :
 (ReflectliteValue.method (ReflectliteValue.valueError "reflectlite.Value.IsNil" 0) ReflectliteValue.isNil #[.agg #[.pointer (some ⟨4,85,none⟩),.pointer (some a),.int .u64 150]]).run Tryz.prog W = .ok (.bool false) W:=by
 rw [asRlm]
 simp only [Sem.run_bind,asPartsP,Result.andThen]
 simp [ReflectliteValue.isNil,loadVar,isAgg,underlying,Tryz.underlying85,ha,Result.andThen]
theorem asMElem (h:Value) (w:World):(Go.method 424 279 (.agg #[h]) "Elem").run Tryz.prog w = .ok (260,.agg #[h]) w:=by kernel_rfl
theorem asMImpl (h:Value) (w:World):(Go.method 424 279 (.agg #[h]) "Implements").run Tryz.prog w = .ok (261,.agg #[h]) w:=by kernel_rfl
theorem asMAssign (h:Value) (w:World):(Go.method 424 279 (.agg #[h]) "AssignableTo").run Tryz.prog w = .ok (258,.agg #[h]) w:=by kernel_rfl
theorem asElemP (w:World):(ReflectliteType.method ReflectliteType.elem #[.agg #[.pointer (some ⟨4,85,none⟩)]]).run Tryz.prog w = .ok (.iface 279 (.agg #[.pointer (some ⟨4,35,none⟩)])) w:=by kernel_rfl
theorem asImplE (w:World):(ReflectliteType.relation "Implements" ReflectliteType.implements_ #[.agg #[.pointer (some ⟨4,35,none⟩)],.iface 279 (.agg #[.pointer (some ⟨4,220,none⟩)])]).run Tryz.prog w = .ok (.bool true) w:=by kernel_rfl
theorem asTypeOf (v:Value) (w:World):(ReflectliteType.typeOf #[.iface 35 v]).run Tryz.prog w = .ok (.iface 279 (.agg #[.pointer (some ⟨4,35,none⟩)])) w:=by kernel_rfl
theorem asAssign (w:World):(ReflectliteType.relation "AssignableTo" ReflectliteType.assignableTo #[.agg #[.pointer (some ⟨4,35,none⟩)],.iface 279 (.agg #[.pointer (some ⟨4,35,none⟩)])]).run Tryz.prog w = .ok (.bool true) w:=by kernel_rfl
theorem asValueOfE (k:Int) (w:World):(ReflectliteValue.unpack (.iface 35 (.int .i64 k))).run Tryz.prog w
 = .ok (.agg #[.pointer (some ⟨4,35,none⟩),.pointer (some ⟨w.heap.size,0,none⟩),.int .u64 130]) (w.alloc (.cells #[.int .i64 k] 35)):=by kernel_rfl
theorem asElemOfP (w:World):(Rtype.elem? 85).run Tryz.prog w = .ok (some 35) w:=by kernel_rfl
theorem asMkE (p:Addr) (w:World):(ReflectliteValue.mk 35 p ReflectliteValue.flagAddr).run Tryz.prog w = .ok (.agg #[.pointer (some ⟨4,35,none⟩),.pointer (some p),.int .u64 386]) w:=by kernel_rfl
theorem asElemV (a p:Addr) (W:World) (ha:W.cell? a=some (.pointer (some p))) :
 (ReflectliteValue.method (ReflectliteValue.valueError "reflectlite.Value.Elem" 0) ReflectliteValue.elem #[.agg #[.pointer (some ⟨4,85,none⟩),.pointer (some a),.int .u64 150]]).run Tryz.prog W
   = .ok (.agg #[.pointer (some ⟨4,35,none⟩),.pointer (some p),.int .u64 386]) W:=by
 rw [asRlm]
 simp only [Sem.run_bind,asPartsP,Result.andThen]
 simp [ReflectliteValue.elem,loadVar,isAgg,underlying,Tryz.underlying85,ha,Result.andThen,asElemOfP,asMkE]
theorem asRls (v x:Value):ReflectliteValue.set #[v,x]=(do
 let (some (dst,a,fl),some (src,b,_)):=(← ReflectliteValue.parts v,← ReflectliteValue.parts x)
  | unsupported (.noEntry "extern/(internal/reflectlite.Value).Set.zeroValue")
 if fl / ReflectliteValue.flagAddr % 2 == 0 then unsupported (.noEntry "extern/(internal/reflectlite.Value).Set.unaddressable")
 let val ← loadVar src b
 if ← Rtype.directlyAssignable dst src then storeVar dst a val
 else if ← Rtype.implements dst src then
  if (← Rtype.kind src) == 20 then
   match val with
   | .nilIface=>unsupported (.noEntry "extern/reflectlite: a nil value of one interface type handed on as a value of another")
   | _=>storeVar dst a val
  else storeVar dst a (.iface src val)
 else panicString ("reflectlite.Set: value of type " ++ (← Rtype.spelt src) ++ " is not assignable to type " ++ (← Rtype.spelt dst))
 pure (.tuple #[])):=rfl
theorem asPartsA (a:Addr) (w:World):(ReflectliteValue.parts (.agg #[.pointer (some ⟨4,35,none⟩),.pointer (some a),.int .u64 386])).run Tryz.prog w = .ok (some (35,a,386)) w:=by kernel_rfl
theorem asPartsE (a:Addr) (w:World):(ReflectliteValue.parts (.agg #[.pointer (some ⟨4,35,none⟩),.pointer (some a),.int .u64 130])).run Tryz.prog w = .ok (some (35,a,130)) w:=by kernel_rfl
theorem asDirect (w:World):(Rtype.directlyAssignable 35 35).run Tryz.prog w = .ok true w:=by kernel_rfl
theorem asSet (ta b:Addr) (k:Int) (old:Value) (W:World) (hb:W.cell? b=some (.int .i64 k)) (ht:W.cell? ta=some old) (hf:W.frozen? ta=false) :
 (ReflectliteValue.set #[.agg #[.pointer (some ⟨4,35,none⟩),.pointer (some ta),.int .u64 386],.agg #[.pointer (some ⟨4,35,none⟩),.pointer (some b),.int .u64 130]]).run Tryz.prog W
   = .ok (.tuple #[]) (W.setCell ta (.int .i64 k)):=by
 rw [asRls]
 simp only [Sem.run_bind,asPartsA,asPartsE,Result.andThen]
 simp [ReflectliteValue.flagAddr,loadVar,isAgg,underlying,Tryz.underlying35,hb,Result.andThen,asDirect,storeVar,Value.cells,storeCells,Addr.add]
 rw [run_store Tryz.prog W ta _ _ (by rfl)]
 simp [ht,hf]
def ErrType (w:World):Prop:=w.cell? ⟨0,0,none⟩=some (.iface 279 (.agg #[.pointer (some ⟨4,220,none⟩)]))
theorem ErrType.bel {w w':World} (h:ErrType w) (hb:Bel w w'):ErrType w':=hb.c h
def AsPost (t:Addr) (k:Int) (w:World) (e:Ending) (w':World):Prop:=e = .returned (.bool true)∧w.grownBy w' (some t.block)∧w'.cell? t=some (.int .i64 k)∧w'.frozen? t=false
set_option maxHeartbeats 1000000 in
theorem as_of (T:TypeId) (v:Value) (k:Int) (t:Addr) (old:Value) (w:World) (hg:w.cell? ⟨0,0,none⟩=some (.iface 279 (.agg #[.pointer (some ⟨4,220,none⟩)]))) (ht:w.cell? t=some old) (hf:w.frozen? t=false)
 (hin : ∀ W b,Bel w W→W.cell? b=some (.pointer (some t))→W.cell? t=some old→W.frozen? t=false →
   Calls Tryz.prog 208 #[.iface T v,.iface 85 (.pointer (some t)),.agg #[.pointer (some ⟨4,85,none⟩),.pointer (some b),.int .u64 150],.iface 279 (.agg #[.pointer (some ⟨4,35,none⟩)])] W (AsPost t k W)) :
 Calls Tryz.prog 191 #[.iface T v,.iface 85 (.pointer (some t))] w (AsPost t k w):=by
 have htl:t.block<w.heap.size:=World.block_lt_of_cell? (w:=w) (a:=t) ht
 have h4:=@run_callFunc_extern Tryz.prog 205 _ (fun args=>ReflectliteValue.unpack (args.getD 0 (.tuple #[]))) Tryz.func205 (by kernel_rfl) (by kernel_rfl) (by kernel_rfl) (by kernel_rfl)
 have h7:=@run_callFunc_extern Tryz.prog 206 _ (ReflectliteValue.methodAny (ReflectliteValue.valueError "reflectlite.Value.Type" 0) (fun t _ _ _=>ReflectliteType.toType t)) Tryz.func206 (by kernel_rfl) (by kernel_rfl) (by kernel_rfl) (by kernel_rfl)
 have h8:=@run_callFunc_extern Tryz.prog 207 _ (ReflectliteValue.method (ReflectliteValue.valueError "reflectlite.Value.IsNil" 0) ReflectliteValue.isNil) Tryz.func207 (by kernel_rfl) (by kernel_rfl) (by kernel_rfl) (by kernel_rfl)
 have h27:=@run_callFunc_extern Tryz.prog 247 _ (ReflectliteType.abiMethod fun t=>do pure (.int .u8 (← Rtype.kind t))) Tryz.func247 (by kernel_rfl) (by kernel_rfl) (by kernel_rfl) (by kernel_rfl)
 have h37:=@run_callFunc_extern Tryz.prog 260 _ (ReflectliteType.method ReflectliteType.elem) Tryz.func260 (by kernel_rfl) (by kernel_rfl) (by kernel_rfl) (by kernel_rfl)
 have h38:=@run_callFunc_extern Tryz.prog 261 _ (ReflectliteType.relation "Implements" ReflectliteType.implements_) Tryz.func261 (by kernel_rfl) (by kernel_rfl) (by kernel_rfl) (by kernel_rfl)
 have f6:=asValueOfP
 have f7:=asTypeP
 have mK:=asMKind
 have mE:=asMElem
 have mI:=asMImpl
 have k27:=asKindP
 have k25:=asKindE
 have e27:=asElemP
 have i25:=asImplE
 have hba:Bel w ((w.alloc (.cells #[.pointer (some t)] 85)).alloc (.cells #[.pointer (some ⟨4,85,none⟩),.pointer (some ⟨w.heap.size,0,none⟩),.int .u64 150] 259)):=((Bel.refl w).alloc _).alloc _
 have n8:=asIsNilP ⟨w.heap.size,0,none⟩ t ((w.alloc (.cells #[.pointer (some t)] 85)).alloc (.cells #[.pointer (some ⟨4,85,none⟩),.pointer (some ⟨w.heap.size,0,none⟩),.int .u64 150] 259)) (by simp)
 have hg2:=hba.c hg
 have ht2:=hba.c ht
 have hf2:=hba.f ht hf
 have HIN:=Lib.hid (hin _ ⟨w.heap.size,0,none⟩ hba (by simp) ht2 hf2)
 have HBA:=Lib.hid hba
 clear hin ht hf ht2 hf2 hba
 go_enter Tryz.func191,Tryz.ntmps191
 go_wp2_with fail
 refine HIN.out.mono ?_
 rintro e w1 ⟨rfl,hg1,hc1,hf1⟩
 have HFIN:Hid (w.grownBy w1 (some t.block)):=grown_trans (HBA.out.grownBy _) hg1
 clear hg1 HBA
 have HC:=Lib.hid hc1
 have HF:=Lib.hid hf1
 clear hc1 hf1
 go_wp2
 go_ret
 exact ⟨rfl,HFIN.out,HC.out,HF.out⟩
end
end Go.Proofs.YtnajjhgbombboaaGreatDoor
