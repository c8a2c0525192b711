/- General words: which blocks of memory a call leaves alone; a reader's and a writer's block. -/
import Derived.Test.YtcaggadjkccbiaaGreatProg
import Derived.WalkKit
import Derived.WalkSpells
import Derived.WalkLawsBesides
import Derived.Lib.Hide
import Derived.Deep.QuietTactic
import Derived.BigQuiet
import Derived.Laws.BitsAllLaws
import Derived.Laws.BitsLemmas
namespace Go.Proofs.YtcaggadjkccbiaaGreat
set_option linter.unusedVariables false
set_option linter.unusedSimpArgs false
open Go Go.RowKit

abbrev Bs:=List UInt8

theorem ret_int {k:IntKind} {a b:Int} (h:a=b):Ending.returned (.int k a)=.returned (.int k b):=by rw [h]
structure Kp (S:List Nat) (w w':World):Prop where
 os:w'.os=w.os
 tape:w'.tape=w.tape
 output:w'.output=w.output
 size:w.heap.size≤w'.heap.size
 block:∀ k,k<w.heap.size→k ∉ S→w'.heap[k]?=w.heap[k]?
 drawn:w.drawn≤w'.drawn

theorem Kp.refl (S:List Nat) (w:World):Kp S w w:=⟨rfl,rfl,rfl,Nat.le_refl _,fun _ _ _=>rfl,Nat.le_refl _⟩
theorem Kp.trans {S:List Nat} {a b c:World} (h:Kp S a b) (k:Kp S b c):Kp S a c:=
 ⟨k.os.trans h.os,k.tape.trans h.tape,k.output.trans h.output,Nat.le_trans h.size k.size,fun i hi hs=>(k.block i (Nat.lt_of_lt_of_le hi h.size) hs).trans (h.block i hi hs),Nat.le_trans h.drawn k.drawn⟩
theorem Kp.drew {S:List Nat} {a w:World} (h:Kp S a w):Kp S a w.drew:=⟨h.os,h.tape,h.output,h.size,h.block,Nat.le_trans h.drawn (Nat.le_succ _)⟩
theorem Kp.drewN {S:List Nat} {a w:World} (h:Kp S a w) (n:Nat):Kp S a (w.drewN n):=⟨h.os,h.tape,h.output,h.size,h.block,Nat.le_trans h.drawn (Nat.le_add_right _ _)⟩
theorem Kp.alloc {S:List Nat} {a w:World} (h:Kp S a w) (o:Obj):Kp S a (w.alloc o):=
 ⟨h.os,h.tape,h.output,by simp;have:=h.size;omega,fun k hk hs=>(Below.heap_alloc _ _ _ (Nat.lt_of_lt_of_le hk h.size)).trans (h.block k hk hs),h.drawn⟩
theorem Kp.setCell {S:List Nat} {b w:World} (h:Kp S b w) {a:Addr} (v:Value) (ha:b.heap.size≤a.block∨a.block∈S):Kp S b (w.setCell a v):=
 ⟨h.os,h.tape,h.output,by simp [World.setCell];exact h.size,fun k hk hs=>(Below.heap_setCell _ _ _ _ (fun e=>by rcases ha with ha | ha;(have:=h.size;omega);exact hs (e ▸ ha))).trans (h.block k hk hs),h.drawn⟩
theorem Kp.mono {S T:List Nat} {a w:World} (h:Kp S a w) (hs:∀ k,k<a.heap.size→k∈S→k∈T):Kp T a w:=
 ⟨h.os,h.tape,h.output,h.size,fun k hk hn=>h.block k hk (fun e=>hn (hs k hk e)),h.drawn⟩
theorem Kp.of_nil {T:List Nat} {a w:World} (h:Kp [] a w):Kp T a w:=h.mono (fun _ _ h=>by simp at h)
theorem Kp.below {a w:World} (h:Kp [] a w):Below a.heap.size a w:=⟨h.os,h.tape,h.output,h.size,fun k hk=>h.block k hk (by simp)⟩
theorem Kp.from {S T:List Nat} {a b c:World} (h:Kp S a b) (k:Kp T b c) (hT:∀ x,x∈T→a.heap.size≤x∨x∈S):Kp S a c:=
 ⟨k.os.trans h.os,k.tape.trans h.tape,k.output.trans h.output,Nat.le_trans h.size k.size,fun i hi hs=>
  (k.block i (Nat.lt_of_lt_of_le hi h.size) (fun e=>by rcases hT i e with h1 | h1;omega;exact hs h1)).trans (h.block i hi hs),Nat.le_trans h.drawn k.drawn⟩
theorem Kp.blk {S:List Nat} {w w':World} (h:Kp S w w') {k:Nat} {o:Obj} (hk:w.heap[k]?=some o) (hs:k ∉ S):w'.heap[k]?=some o:=
 (h.block k (lt_of_block hk) hs).trans hk
theorem Kp.cell {S:List Nat} {w w':World} (h:Kp S w w') {a:Addr} {v:Value} (hc:w.cell? a=some v) (hs:a.block ∉ S):w'.cell? a=some v:=
 (World.cell?_of_block (w:=w) (h.block a.block (World.block_lt_of_cell? w a hc) hs)).trans hc
theorem Kp.frozen {S:List Nat} {w w':World} (h:Kp S w w') {a:Addr} (ha:a.block<w.heap.size) (hs:a.block ∉ S):w'.frozen? a=w.frozen? a:=
 World.frozen?_of_block (w:=w) (h.block a.block ha hs)

def Blk (w:World) (b:Nat) (t:TypeId) (cs:Array Value):Prop:=w.heap[b]?=some (.cells cs t (0,0))
theorem Blk.lt {w b t cs} (h:Blk w b t cs):b<w.heap.size:=lt_of_block h
theorem Blk.cell {w b t cs} (h:Blk w b t cs) (i:Nat):w.cell? ⟨b,i,none⟩=cs[i]?:=by unfold Blk at h;simp [World.cell?,h]
theorem Blk.frozen {w b t cs} (h:Blk w b t cs) (i:Nat):w.frozen? ⟨b,i,none⟩=false:=by unfold Blk at h;simp [World.frozen?,h]
theorem Blk.kp {S:List Nat} {w w' b t cs} (h:Blk w b t cs) (k:Kp S w w') (hs:b ∉ S):Blk w' b t cs:=k.blk h hs
theorem Blk.set {w b t cs} (h:Blk w b t cs) (i:Nat) (v:Value):Blk (w.setCell ⟨b,i,none⟩ v) b t (cs.setIfInBounds i v):=by
 unfold Blk at *;simp [World.setCell,Array.getElem?_modify,h]
theorem Blk.set_other {w b t cs} (h:Blk w b t cs) {a:Addr} (v:Value) (hne:a.block≠b):Blk (w.setCell a v) b t cs:=
 (Below.heap_setCell _ _ _ _ (fun e=>hne e.symm)).trans h
theorem Blk.alloc {w b t cs} (h:Blk w b t cs) (o:Obj):Blk (w.alloc o) b t cs:=(Below.heap_alloc _ _ _ h.lt).trans h
theorem Blk.drew {w b t cs} (h:Blk w b t cs):Blk w.drew b t cs:=h
theorem Blk.drewN {w b t cs} (h:Blk w b t cs) (n:Nat):Blk (w.drewN n) b t cs:=h
theorem Blk.new (w:World) (t:TypeId) (cs:Array Value):Blk (w.alloc (.cells cs t)) w.heap.size t cs:=heap_alloc_new w _

def RdAt (w:World) (b:Nat) (s:Bs) (p f:Int):Prop:=Blk w b 179 #[.bool true,.string ⟨s.toArray⟩,.int .i64 p,.int .i64 f]
def RdOk (w:World) (b:Nat) (s l:Bs):Prop:=∃ p:Nat,p+l.length=s.length∧l=s.drop p∧RdAt w b s p 0
def RdBad (w:World) (b:Nat) (s:Bs):Prop:=∃ (p:Nat) (f:Int),f≠0∧p≤s.length∧RdAt w b s p f

theorem RdAt.cells {w b s p f} (h:RdAt w b s p f):w.cell? ⟨b,0,none⟩=some (.bool true)∧w.cell? ⟨b,1,none⟩=some (.string ⟨s.toArray⟩)∧w.cell? ⟨b,2,none⟩=some (.int .i64 p)∧w.cell? ⟨b,3,none⟩=some (.int .i64 f):=
 ⟨Blk.cell h 0,Blk.cell h 1,Blk.cell h 2,Blk.cell h 3⟩
theorem RdAt.setAt {w b s p f} (h:RdAt w b s p f) (q:Int):RdAt (w.setCell ⟨b,2,none⟩ (.int .i64 q)) b s q f:=Blk.set h 2 _
theorem RdAt.setFault {w b s p f} (h:RdAt w b s p f) (q:Int):RdAt (w.setCell ⟨b,3,none⟩ (.int .i64 q)) b s p q:=Blk.set h 3 _
theorem RdOk.kp {S:List Nat} {w w' b s l} (h:RdOk w b s l) (k:Kp S w w') (hs:b ∉ S):RdOk w' b s l:=let ⟨p,h1,h2,h3⟩:=h;⟨p,h1,h2,Blk.kp h3 k hs⟩
theorem RdBad.kp {S:List Nat} {w w' b s} (h:RdBad w b s) (k:Kp S w w') (hs:b ∉ S):RdBad w' b s:=let ⟨p,f,h1,h2,h3⟩:=h;⟨p,f,h1,h2,Blk.kp h3 k hs⟩
theorem RdOk.lt {w b s l} (h:RdOk w b s l):b<w.heap.size:=let ⟨_,_,_,h3⟩:=h;Blk.lt h3
theorem RdBad.lt {w b s} (h:RdBad w b s):b<w.heap.size:=let ⟨_,_,_,_,h3⟩:=h;Blk.lt h3

end Go.Proofs.YtcaggadjkccbiaaGreat
namespace Go.Proofs.YtcaggadjkccbiaaGreat
set_option linter.unusedVariables false
set_option linter.unusedSimpArgs false
open Go

def vrd:List UInt8→Nat→Nat→Option (Nat×List UInt8)
 | [],_,_=>none
 | b::l,k,n=>if (k=63∧1<b.toNat)∨(0<k∧b.toNat=0) then none else
  if b.toNat<128 then some (n+b.toNat*2 ^ k,l) else vrd l (k+7) (n+b.toNat % 128*2 ^ k)

def freeP (m:Nat) (l:List UInt8):Option (Nat×List UInt8):=
 match vrd l 0 0 with
 | none=>none
 | some (n,l')=>if n≤m then some (n,l') else none

def rawP (n:Nat) (l:List UInt8):Option (List UInt8×List UInt8):=if n≤l.length then some (l.take n,l.drop n) else none

def textP (m:Nat) (l:List UInt8):Option (List UInt8×List UInt8):=
 match freeP m l with
 | none=>none
 | some (n,l')=>rawP n l'

def be:List UInt8→Nat→Nat
 | [],acc=>acc
 | b::l,acc=>be l (acc*256+b.toNat)

def takeP (n:Nat) (l:List UInt8):Option (Nat×List UInt8):=if n≤l.length then some (be (l.take n) 0,l.drop n) else none

theorem u8_and127 {x:Int} (h₀:0≤x) (h₁:x<256):bits .and .u8 x 127=x % 128:=bits_mask .u8 8 (by decide) wraps_u8 7 (by decide) x h₀ h₁

theorem or_shift (n c k:Nat) (hn:n<2 ^ k):n ||| c*2 ^ k=n+c*2 ^ k:=by
 rw [Nat.or_comm,Nat.mul_comm,← Nat.two_pow_add_eq_or_of_lt hn,Nat.add_comm]

theorem wrap_u64 (n:Int):IntKind.u64.wrap n=n % 18446744073709551616:=by simp [IntKind.wrap,IntKind.bits,IntKind.signed]

theorem gather (n c k:Nat) (hn:n<2 ^ k) (h7:k % 7=0) (hk:k≤63) (hc:c<256) (hc':k=63→c≤1) :
  bits .or .u64 (n:Int) (IntKind.u64.wrap (IntKind.u64.wrap (bits .and .u8 (c:Int) 127)*2 ^ k))=((n+c % 128*2 ^ k:Nat):Int)∧n+c % 128*2 ^ k<18446744073709551616:=by
 have hm:c % 128*2 ^ k+2 ^ k≤18446744073709551616:=by
  by_cases h63:k=63
  ·subst h63
   have:=hc' rfl
   omega
  ·have h57:k≤57:=by omega
   have h2:(c % 128+1)*2 ^ k≤128*2 ^ k:=Nat.mul_le_mul_right _ (by omega)
   have h3:2 ^ k≤2 ^ 57:=Nat.pow_le_pow_right (by omega) h57
   rw [Nat.add_mul] at h2
   omega
 have e1:IntKind.u64.wrap (bits .and .u8 (c:Int) 127)=((c % 128:Nat):Int):=by
  rw [u8_and127 (by omega) (by omega)]
  rw [wrap_u64]
  omega
 have e2:IntKind.u64.wrap (((c % 128:Nat):Int)*2 ^ k)=((c % 128*2 ^ k:Nat):Int):=by
  have:((c % 128:Nat):Int)*2 ^ k=((c % 128*2 ^ k:Nat):Int):=by simp
  rw [this]
  generalize c % 128*2 ^ k=z at *
  rw [wrap_u64]
  omega
 rw [e1,e2,u64_or_nat _ _ (by omega) (by omega),or_shift _ _ _ hn]
 exact ⟨rfl,by omega⟩

theorem gather_lt (n c k:Nat) (hn:n<2 ^ k):n+c % 128*2 ^ k<2 ^ (k+7):=by
 have h2:(c % 128+1)*2 ^ k≤128*2 ^ k:=Nat.mul_le_mul_right _ (by omega)
 rw [Nat.add_mul] at h2
 rw [Nat.pow_add]
 omega

theorem vrd_rest:∀ (l:List UInt8) (k n m:Nat) (l':List UInt8),vrd l k n=some (m,l')→l' <:+ l∧l'.length<l.length
 | [],_,_,_,_,h=>by simp [vrd] at h
 | b::l,k,n,m,l',h=>by
  unfold vrd at h
  split at h
  ·cases h
  ·split at h
   ·simp only [Option.some.injEq,Prod.mk.injEq] at h
    obtain ⟨_,rfl⟩:=h
    exact ⟨List.suffix_cons b l,by simp⟩
   ·obtain ⟨h1,h2⟩:=vrd_rest l _ _ _ _ h
    exact ⟨h1.trans (List.suffix_cons b l),by simp;omega⟩

theorem freeP_rest {m:Nat} {l:List UInt8} {n:Nat} {l':List UInt8} (h:freeP m l=some (n,l')):l' <:+ l∧l'.length<l.length∧n≤m:=by
 unfold freeP at h
 split at h
 ·cases h
 ·rename_i n' l'' hv
  split at h
  ·simp only [Option.some.injEq,Prod.mk.injEq] at h
   obtain ⟨rfl,rfl⟩:=h
   obtain ⟨h1,h2⟩:=vrd_rest _ _ _ _ _ hv
   exact ⟨h1,h2,by assumption⟩
  ·cases h


abbrev W32:=UInt32

def ror (x:W32) (n:W32):W32:=x >>> n ||| x <<< (32 - n)

def wMix (a b c d:W32):W32:=a+(ror b 7 ^^^ ror b 18 ^^^ b >>> 3)+c+(ror d 17 ^^^ ror d 19 ^^^ d >>> 10)

def wNext (l:List W32):W32:=wMix (l.getD (l.length - 16) 0) (l.getD (l.length - 15) 0) (l.getD (l.length - 7) 0) (l.getD (l.length - 2) 0)

def sched:Nat→List W32→List W32
 | 0,l=>l
 | n+1,l=>sched n (l++[wNext l])

structure V8 where
 a:W32
 b:W32
 c:W32
 d:W32
 e:W32
 f:W32
 g:W32
 h:W32
deriving DecidableEq

def V8.l (v:V8):List W32:=[v.a,v.b,v.c,v.d,v.e,v.f,v.g,v.h]

def V8.one (v:V8) (k w:W32):W32:=v.h+(ror v.e 6 ^^^ ror v.e 11 ^^^ ror v.e 25)+(v.e &&& v.f ^^^ ~~~v.e &&& v.g)+k+w
def V8.two (v:V8):W32:=(ror v.a 2 ^^^ ror v.a 13 ^^^ ror v.a 22)+(v.a &&& v.b ^^^ v.a &&& v.c ^^^ v.b &&& v.c)
def V8.step (v:V8) (k w:W32):V8:=⟨v.one k w+v.two,v.a,v.b,v.c,v.d+v.one k w,v.e,v.f,v.g⟩
def V8.add (x y:V8):V8:=⟨x.a+y.a,x.b+y.b,x.c+y.c,x.d+y.d,x.e+y.e,x.f+y.f,x.g+y.g,x.h+y.h⟩

def rounds (v:V8):List (W32×W32)→V8
 | []=>v
 | (k,w)::l=>rounds (v.step k w) l

def shaK:List W32:=[
 0x428a2f98,0x71374491,0xb5c0fbcf,0xe9b5dba5,0x3956c25b,0x59f111f1,0x923f82a4,0xab1c5ed5,
 0xd807aa98,0x12835b01,0x243185be,0x550c7dc3,0x72be5d74,0x80deb1fe,0x9bdc06a7,0xc19bf174,
 0xe49b69c1,0xefbe4786,0x0fc19dc6,0x240ca1cc,0x2de92c6f,0x4a7484aa,0x5cb0a9dc,0x76f988da,
 0x983e5152,0xa831c66d,0xb00327c8,0xbf597fc7,0xc6e00bf3,0xd5a79147,0x06ca6351,0x14292967,
 0x27b70a85,0x2e1b2138,0x4d2c6dfc,0x53380d13,0x650a7354,0x766a0abb,0x81c2c92e,0x92722c85,
 0xa2bfe8a1,0xa81a664b,0xc24b8b70,0xc76c51a3,0xd192e819,0xd6990624,0xf40e3585,0x106aa070,
 0x19a4c116,0x1e376c08,0x2748774c,0x34b0bcb5,0x391c0cb3,0x4ed8aa4a,0x5b9cca4f,0x682e6ff3,
 0x748f82ee,0x78a5636f,0x84c87814,0x8cc70208,0x90befffa,0xa4506ceb,0xbef9a3f7,0xc67178f2]
def shaH:V8:=⟨0x6a09e667,0xbb67ae85,0x3c6ef372,0xa54ff53a,0x510e527f,0x9b05688c,0x1f83d9ab,0x5be0cd19⟩

def word (a b c d:UInt8):W32:=a.toUInt32 <<< 24 ||| b.toUInt32 <<< 16 ||| c.toUInt32 <<< 8 ||| d.toUInt32

def words:List UInt8→List W32
 | a::b::c::d::l=>word a b c d::words l
 | _=>[]

def takeIn (h:V8) (b:List UInt8):V8:=h.add (rounds h (shaK.zip (sched 48 (words b))))

def takeAll:Nat→V8→List UInt8→V8
 | 0,h,_=>h
 | n+1,h,l=>takeAll n (takeIn h (l.take 64)) (l.drop 64)

def padZ (n:Nat):List UInt8:=0x80::List.replicate ((119 - n % 64) % 64) 0
def len8 (n:Nat):List UInt8:=[56,48,40,32,24,16,8,0].map fun k=>UInt8.ofNat ((n*8) % 18446744073709551616 / 2 ^ k)
def padded (s:List UInt8):List UInt8:=s++padZ s.length++len8 s.length

def bytes4 (w:W32):List UInt8:=[(w >>> 24).toUInt8,(w >>> 16).toUInt8,(w >>> 8).toUInt8,w.toUInt8]
def V8.bytes (v:V8):List UInt8:=v.l.flatMap bytes4

def shaL (s:List UInt8):List UInt8:=(takeAll ((padded s).length / 64) shaH (padded s)).bytes

example:shaL [97,98,99]=[0xba,0x78,0x16,0xbf,0x8f,0x01,0xcf,0xea,0x41,0x41,0x40,0xde,0x5d,0xae,0x22,0x23,0xb0,0x03,0x61,0xa3,0x96,0x17,0x7a,0x9c,0xb4,0x10,0xff,0x61,0xf2,0x00,0x15,0xad]:=by decide +kernel

end Go.Proofs.YtcaggadjkccbiaaGreat