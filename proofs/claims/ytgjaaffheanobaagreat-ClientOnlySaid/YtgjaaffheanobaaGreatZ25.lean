/- The plain hash: words of 32 bits, the schedule, the rounds, the padding. No program in sight. -/
import Derived.Laws.BitsAllLaws
import Derived.Laws.BitsLemmas
namespace Go.Proofs.YtgjaaffheanobaaGreat
set_option linter.unusedVariables false
set_option linter.unusedSimpArgs false
open Go

abbrev W32:=UInt32

def ror (x:W32) (n:W32):W32:=x >>> n ||| x <<< (32 - n)

def wMix (a b c d:W32):W32:=a+(ror b 7 ^^^ ror b 18 ^^^ b >>> 3)+c+(ror d 17 ^^^ ror d 19 ^^^ d >>> 10)

def wNext (l:List W32):W32:=wMix (l.getD (l.length - 16) 0) (l.getD (l.length - 15) 0) (l.getD (l.length - 7) 0) (l.getD (l.length - 2) 0)

def sched:Nat→List W32→List W32
 | 0,l=>l
 | n+1,l=>sched n (l++[wNext l])

structure V8 where
 a:W32
 b:W32
 c:W32
 d:W32
 e:W32
 f:W32
 g:W32
 h:W32
deriving DecidableEq

def V8.l (v:V8):List W32:=[v.a,v.b,v.c,v.d,v.e,v.f,v.g,v.h]

def V8.one (v:V8) (k w:W32):W32:=v.h+(ror v.e 6 ^^^ ror v.e 11 ^^^ ror v.e 25)+(v.e &&& v.f ^^^ ~~~v.e &&& v.g)+k+w
def V8.two (v:V8):W32:=(ror v.a 2 ^^^ ror v.a 13 ^^^ ror v.a 22)+(v.a &&& v.b ^^^ v.a &&& v.c ^^^ v.b &&& v.c)
def V8.step (v:V8) (k w:W32):V8:=⟨v.one k w+v.two,v.a,v.b,v.c,v.d+v.one k w,v.e,v.f,v.g⟩
def V8.add (x y:V8):V8:=⟨x.a+y.a,x.b+y.b,x.c+y.c,x.d+y.d,x.e+y.e,x.f+y.f,x.g+y.g,x.h+y.h⟩

def rounds (v:V8):List (W32×W32)→V8
 | []=>v
 | (k,w)::l=>rounds (v.step k w) l

def shaK:List W32:=[
 0x428a2f98,0x71374491,0xb5c0fbcf,0xe9b5dba5,0x3956c25b,0x59f111f1,0x923f82a4,0xab1c5ed5,
 0xd807aa98,0x12835b01,0x243185be,0x550c7dc3,0x72be5d74,0x80deb1fe,0x9bdc06a7,0xc19bf174,
 0xe49b69c1,0xefbe4786,0x0fc19dc6,0x240ca1cc,0x2de92c6f,0x4a7484aa,0x5cb0a9dc,0x76f988da,
 0x983e5152,0xa831c66d,0xb00327c8,0xbf597fc7,0xc6e00bf3,0xd5a79147,0x06ca6351,0x14292967,
 0x27b70a85,0x2e1b2138,0x4d2c6dfc,0x53380d13,0x650a7354,0x766a0abb,0x81c2c92e,0x92722c85,
 0xa2bfe8a1,0xa81a664b,0xc24b8b70,0xc76c51a3,0xd192e819,0xd6990624,0xf40e3585,0x106aa070,
 0x19a4c116,0x1e376c08,0x2748774c,0x34b0bcb5,0x391c0cb3,0x4ed8aa4a,0x5b9cca4f,0x682e6ff3,
 0x748f82ee,0x78a5636f,0x84c87814,0x8cc70208,0x90befffa,0xa4506ceb,0xbef9a3f7,0xc67178f2]
def shaH:V8:=⟨0x6a09e667,0xbb67ae85,0x3c6ef372,0xa54ff53a,0x510e527f,0x9b05688c,0x1f83d9ab,0x5be0cd19⟩

def word (a b c d:UInt8):W32:=a.toUInt32 <<< 24 ||| b.toUInt32 <<< 16 ||| c.toUInt32 <<< 8 ||| d.toUInt32

def words:List UInt8→List W32
 | a::b::c::d::l=>word a b c d::words l
 | _=>[]

def takeIn (h:V8) (b:List UInt8):V8:=h.add (rounds h (shaK.zip (sched 48 (words b))))

def takeAll:Nat→V8→List UInt8→V8
 | 0,h,_=>h
 | n+1,h,l=>takeAll n (takeIn h (l.take 64)) (l.drop 64)

def padZ (n:Nat):List UInt8:=0x80::List.replicate ((119 - n % 64) % 64) 0
def len8 (n:Nat):List UInt8:=[56,48,40,32,24,16,8,0].map fun k=>UInt8.ofNat ((n*8) % 18446744073709551616 / 2 ^ k)
def padded (s:List UInt8):List UInt8:=s++padZ s.length++len8 s.length

def bytes4 (w:W32):List UInt8:=[(w >>> 24).toUInt8,(w >>> 16).toUInt8,(w >>> 8).toUInt8,w.toUInt8]
def V8.bytes (v:V8):List UInt8:=v.l.flatMap bytes4

def shaL (s:List UInt8):List UInt8:=(takeAll ((padded s).length / 64) shaH (padded s)).bytes

example:shaL [97,98,99]=[0xba,0x78,0x16,0xbf,0x8f,0x01,0xcf,0xea,0x41,0x41,0x40,0xde,0x5d,0xae,0x22,0x23,0xb0,0x03,0x61,0xa3,0x96,0x17,0x7a,0x9c,0xb4,0x10,0xff,0x61,0xf2,0x00,0x15,0xad]:=by decide +kernel

end Go.Proofs.YtgjaaffheanobaaGreat