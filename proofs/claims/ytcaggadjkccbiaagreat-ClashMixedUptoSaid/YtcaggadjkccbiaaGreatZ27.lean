/- The document's reader (values without addresses). -/
import Derived.Test.YtcaggadjkccbiaaGreatZ12
import Derived.Test.YtcaggadjkccbiaaGreatZ14
import Derived.Test.YtcaggadjkccbiaaGreatZ0
import Derived.Test.YtcaggadjkccbiaaGreatZ2
import Derived.Test.YtcaggadjkccbiaaGreatZ26
import Derived.IntWalk
namespace Go.Proofs.YtcaggadjkccbiaaGreat
set_option maxHeartbeats 1000000
set_option maxRecDepth 100000
set_option linter.unusedVariables false
set_option linter.unusedSimpArgs false
open Go Go.RowKit

@[go_sem] def rrD (s:Bs) (p c:Int):D:=.agg [sD s,iD p,iD c]
def RrIs (s:Bs) (o:Option Bs) (p c:Int):Prop:=
 match o with
 | some l=>c=0∧∃ k:Nat,p=k∧k+l.length=s.length∧l=s.drop k
 | none=>c≠0∧∃ k:Nat,p=k∧k≤s.length
def RrSt (S:Sto) (b:Nat) (s:Bs) (o:Option Bs):Prop:=∃ t p c,getM S.bk b=some (t,rrD s p c)∧RrIs s o p c
def RrTo (S:Sto) (b:Nat) (s:Bs) (o:Option Bs) (S':Sto):Prop:=∃ p c,S'=⟨setM S.bk b (rrD s p c),S.ow⟩∧RrIs s o p c
theorem RrTo.st {S S':Sto} {b:Nat} {s:Bs} {o o':Option Bs} (h:RrSt S b s o) (k:RrTo S b s o' S'):RrSt S' b s o':=by
 obtain ⟨t,p,c,h1,_⟩:=h
 obtain ⟨p',c',rfl,h2⟩:=k
 exact ⟨t,p',c',by rw [getM_setM,h1];rfl,h2⟩
theorem RrTo.trans {S S1 S2:Sto} {b:Nat} {s:Bs} {o1 o2:Option Bs} (h:RrTo S b s o1 S1) (k:RrTo S1 b s o2 S2):RrTo S b s o2 S2:=by
 obtain ⟨p,c,rfl,_⟩:=h
 obtain ⟨p',c',rfl,h2⟩:=k
 exact ⟨p',c',by rw [setM_setM],h2⟩
theorem RrTo.same {S:Sto} {b:Nat} {s:Bs} {o:Option Bs} (h:RrSt S b s o):RrTo S b s o S:=by
 obtain ⟨t,p,c,h1,h2⟩:=h
 exact ⟨p,c,by rw [setM_same h1],h2⟩

def gv {α:Type} (f:Bs→Option (α×Bs)) (d:α) (o:Option Bs):α:=((o.bind f).map (·.1)).getD d
def gr {α:Type} (f:Bs→Option (α×Bs)) (o:Option Bs):Option Bs:=(o.bind f).map (·.2)

theorem gv_some {α:Type} {f:Bs→Option (α×Bs)} {d x:α} {l l':Bs} (h:f l=some (x,l')):gv f d (some l)=x:=by simp [gv,h]
theorem gr_some {α:Type} {f:Bs→Option (α×Bs)} {x:α} {l l':Bs} (h:f l=some (x,l')):gr f (some l)=some l':=by simp [gr,h]
theorem gv_none {α:Type} {f:Bs→Option (α×Bs)} {d:α} {l:Bs} (h:f l=none):gv f d (some l)=d:=by simp [gv,h]
theorem gr_none {α:Type} {f:Bs→Option (α×Bs)} {l:Bs} (h:f l=none):gr f (some l)=none:=by simp [gr,h]

theorem aLeft (b:Nat) (s:Bs) (p c:Int) (S:Sto) (t:TypeId) (hb:getM S.bk b=some (t,rrD s p c)) (h0:0≤p) (h1:p≤s.length) (hs:s.length≤140737488351232) :
  ACalls Tryz.prog 110 [pD b] S (RetQ (iD (s.length - p)) S):=by
 have e:IntKind.i64.wrap ((s.length:Int) - p)=s.length - p:=IntWalk.i64_in _ (by omega)
 refine acalls_of prg Tryz.func110 rfl (by kernel_rfl) (congrArg Array.toList Tryz.results110) Tryz.ntmps110 (fun B hB=>fA ?_)
 refine Wv (Yy hb e) ?_
 exact rE

theorem aFail (b:Nat) (s:Bs) (p c code at_:Int) (S:Sto) (t:TypeId) (hb:getM S.bk b=some (t,rrD s p c)) :
  ACalls Tryz.prog 111 [pD b,iD code,iD at_] S (RetQ (.tup []) ⟨setM S.bk b (rrD s at_ code),S.ow⟩):=by
 refine acalls_of prg Tryz.func111 rfl (by kernel_rfl) (congrArg Array.toList Tryz.results111) Tryz.ntmps111 (fun B hB=>fA ?_)
 refine Wv hb ?_
 exact rE

theorem aRaw (b:Nat) (n:Int) (s:Bs) (o:Option Bs) (S:Sto) (h:RrSt S b s o) (hn:n≤9223372036854775807) (hs:s.length≤140737488351232) :
  ACalls Tryz.prog 112 [pD b,iD n] S (fun e S'=>∃ d,e=.ret d∧d=sD (gv (rawP n.toNat) [] o)∧RrTo S b s (gr (rawP n.toNat) o) S'):=by
 have h0:=h
 obtain ⟨t,p,c,hb,hr⟩:=h
 refine acalls_of prg Tryz.func112 rfl (by kernel_rfl) (congrArg Array.toList Tryz.results112) Tryz.ntmps112 (fun B hB=>fA ?_)
 cases o with
 | none=>
  obtain ⟨hc,k,hp,hk⟩:=hr
  have h1:(c != 0)=true:=by simpa using hc
  refine Wv (Yy hb h1) ?_
  refine rX ?_
  exact ⟨rfl,RrTo.same h0⟩
 | some l=>
  obtain ⟨rfl,k,rfl,hk,hl⟩:=hr
  by_cases hn0:n≤0
  ·have h1:n.toNat=0:=by omega
   have h2:rawP 0 l=some ([],l):=by simp [rawP]
   have d1:decide (n≤0)=true:=decide_eq_true hn0
   refine Wv (Yy hb d1) ?_
   refine rX ?_
   rw [h1]
   have h3:gr (rawP 0) (some l)=some l:=by simp [gr,h2]
   rw [h3]
   exact ⟨by simp [gv,h2],RrTo.same h0⟩
  ·obtain ⟨m,rfl⟩:=Int.eq_ofNat_of_zero_le (show 0≤n by omega)
   have d1:decide ((m:Int)≤0)=false:=decide_eq_false hn0
   refine Wv (Yy hb d1) ?_
   refine cQ (aLeft b s k 0 S t hb (by omega) (by omega) hs) ?_
   by_cases hle:m≤l.length
   ·have d2:decide ((s.length:Int) - k<m)=false:=decide_eq_false (by omega)
    have e1:IntKind.i64.wrap ((k:Int)+m)=((k+m:Nat):Int):=IntWalk.i64_in _ (by omega)
    have e2:rawP m l=some (l.take m,l.drop m):=by simp [rawP,hle]
    have e3:k+m - k=m:=by omega
    have c1:(0:Int)≤((k+m:Nat):Int):=by omega
    have c2:(0:Int)≤(k:Int):=by omega
    have c3:k≤k+m∧k+m≤s.length:=by omega
    refine Wv (Yy hb (Yy d2 (Yy e1 (Yy e3 (Yy c1 (Yy c2 (Yy c3 Int.toNat_natCast))))))) ?_
    refine rX ?_
    rw [Int.toNat_natCast,gv_some e2,gr_some e2]
    exact ⟨by rw [hl],k+m,0,rfl,rfl,k+m,rfl,by simp;omega,by rw [hl,List.drop_drop]⟩
   ·have d2:decide ((s.length:Int) - k<m)=true:=decide_eq_true (by omega)
    have e2:rawP m l=none:=by simp [rawP,hle]
    refine Wv (Yy hb d2) ?_
    refine cQ (aFail b s k 0 10 k S t hb) ?_
    refine Wv hb ?_
    refine rX ?_
    rw [Int.toNat_natCast,gv_none e2,gr_none e2]
    exact ⟨rfl,k,10,rfl,by omega,k,rfl,by omega⟩

theorem aTake (b n:Nat) (s:Bs) (o:Option Bs) (S:Sto) (h:RrSt S b s o) (hs:s.length≤140737488351232) (hn:n≤4) (hn1:1≤n) :
  ACalls Tryz.prog 145 [pD b,iD n] S (fun e S'=>∃ d,e=.ret d∧d=uD (gv (takeP n) 0 o:Nat)∧RrTo S b s (gr (takeP n) o) S'):=by
 have h0:=h
 obtain ⟨t,p,c,hb,hr⟩:=h
 refine acalls_of prg Tryz.func145 rfl (by kernel_rfl) (congrArg Array.toList Tryz.results145) Tryz.ntmps145 (fun B hB=>fA ?_)
 cases o with
 | none=>
  obtain ⟨hc,k,hp,hk⟩:=hr
  have h1:(c != 0)=true:=by simpa using hc
  refine Wv (Yy hb h1) ?_
  refine rX ?_
  exact ⟨rfl,RrTo.same h0⟩
 | some l=>
  obtain ⟨rfl,k,rfl,hk,hl⟩:=hr
  have d0:((0:Int) != 0)=false:=rfl
  refine Wv (Yy hb d0) ?_
  refine cQ (aLeft b s k 0 S t hb (by omega) (by omega) hs) ?_
  by_cases hle:n≤l.length
  ·have d2:decide ((s.length:Int) - k<n)=false:=decide_eq_false (by omega)
   refine Wv (Yy hb d2) ?_
   refine AW.loopS 7 [5,6] (fun xs S'=>∃ j y:Nat,xs=[uD y,iD j]∧S=S'∧j≤n∧y<4294967296∧y=be (l.take j) 0) (fun xs _=>n - nI (xs.getD 1 .any)) [uD 0,iD 0] S ?_ (Sto.Sub.refl _) ⟨0,0,rfl,rfl,by omega,by omega,by simp [be]⟩ ?_
   ·exact wK
   rintro xs S' ⟨j,y,rfl,rfl,hj,hy,hbe⟩
   refine fR ?_
   by_cases hjn:j<n
   ·have d3:decide ((j:Int)<n)=true:=decide_eq_true (by omega)
    have hkj:k+j<s.length:=by omega
    obtain ⟨u,hu⟩:∃ u,s[k+j]?=some u:=⟨_,List.getElem?_eq_getElem hkj⟩
    have hu2:l[j]?=some u:=by rw [hl,List.getElem?_drop];exact hu
    have hN:be (l.take (j+1)) 0=y*256+u.toNat:=by rw [List.take_add_one,hu2,hbe];exact be_app (l.take j) [u] 0
    have hlt4:be (l.take (j+1)) 0<4294967296:=by
     have h1:=be_lt (l.take (j+1))
     have hln:(l.take (j+1)).length=j+1:=by rw [List.length_take];omega
     rw [hln] at h1
     have h2:(256:Nat) ^ (j+1)≤256 ^ 4:=Nat.pow_le_pow_right (by omega) (by omega)
     omega
    have hul:=u.toNat_lt
    have f1:IntKind.i64.wrap ((k:Int)+j)=((k+j:Nat):Int):=IntWalk.i64_in _ (by omega)
    have f2:IntKind.u64.wrap ((y:Int)*256)=(y:Int)*256:=by rw [IntKind.wrap_u64];omega
    have f3:IntKind.u64.wrap (u.toNat:Int)=u.toNat:=by rw [IntKind.wrap_u64];omega
    have f4:IntKind.u64.wrap ((y:Int)*256+u.toNat)=((y*256+u.toNat:Nat):Int):=by rw [IntKind.wrap_u64];omega
    have f5:IntKind.i64.wrap ((j:Int)+1)=((j+1:Nat):Int):=IntWalk.i64_in _ (by omega)
    have f6:(0:Int)≤((k+j:Nat):Int):=by omega
    refine Wv (Yy hb (Yy d3 (Yy f1 (Yy f2 (Yy f3 (Yy f4 (Yy f5 (Yy f6 (Yy Int.toNat_natCast hu))))))))) ?_
    refine ⟨[uD (y*256+u.toNat:Nat),iD (j+1:Nat)],S,?_,Sto.Sub.refl _,⟨j+1,_,rfl,rfl,by omega,by rw [← hN];exact hlt4,hN.symm⟩,?_⟩
    ·exact wK
    ·exact mE
   ·have d3:decide ((j:Int)<n)=false:=decide_eq_false (by omega)
    obtain rfl:j=n:=by omega
    have f1:IntKind.i64.wrap ((k:Int)+j)=((k+j:Nat):Int):=IntWalk.i64_in _ (by omega)
    have e2:takeP j l=some (be (l.take j) 0,l.drop j):=by simp [takeP,hle]
    refine Wv (Yy hb (Yy d3 f1)) ?_
    refine rX ?_
    rw [gv_some e2,gr_some e2,← hbe]
    exact ⟨rfl,_,0,rfl,rfl,k+j,rfl,by simp;omega,by rw [hl,List.drop_drop]⟩
  ·have d2:decide ((s.length:Int) - k<n)=true:=decide_eq_true (by omega)
   have e2:takeP n l=none:=by simp [takeP,hle]
   refine Wv (Yy hb d2) ?_
   refine cQ (aFail b s k 0 10 k S t hb) ?_
   refine Wv hb ?_
   refine rX ?_
   rw [gv_none e2,gr_none e2]
   exact ⟨rfl,k,10,rfl,by omega,k,rfl,by omega⟩


theorem vrd_nil (k n:Nat):vrd [] k n=none:=rfl
theorem vrd_cons (b:UInt8) (l:Bs) (k n:Nat):vrd (b::l) k n=if (k=63∧1<b.toNat)∨(0<k∧b.toNat=0) then none else if b.toNat<128 then some (n+b.toNat*2 ^ k,l) else vrd l (k+7) (n+b.toNat % 128*2 ^ k):=rfl
theorem freeP_bad {m:Nat} {l:Bs} (h:vrd l 0 0=none):freeP m l=none:=by unfold freeP;rw [h]
theorem freeP_big {m n:Nat} {l l':Bs} (h:vrd l 0 0=some (n,l')) (hn:m<n):freeP m l=none:=by
 unfold freeP;rw [h];show (if n≤m then _ else _)=_;rw [if_neg (by omega)]
theorem freeP_fit {m n:Nat} {l l':Bs} (h:vrd l 0 0=some (n,l')) (hn:n≤m):freeP m l=some (n,l'):=by
 unfold freeP;rw [h];show (if n≤m then _ else _)=_;rw [if_pos hn]
theorem pow7 (j:Nat):(2:Nat) ^ (7*(j+1))=2 ^ (7*j)*128:=by rw [Nat.mul_succ,Nat.pow_add]

theorem aFree (b m : Nat) (s : Bs) (o : Option Bs) (S : Sto) (h : RrSt S b s o) (hs : s.length ≤ 140737488351232) (hm : m < 18446744073709551616) :
    ACalls Tryz.prog 108 [pD b, uD m] S (fun e S' => ∃ d, e = .ret d ∧ d = uD (gv (freeP m) 0 o : Nat) ∧ RrTo S b s (gr (freeP m) o) S') := by
  have h0 := h
  obtain ⟨t, p, c, hb, hr⟩ := h
  refine acalls_of prg Tryz.func108 rfl (by kernel_rfl) (congrArg Array.toList Tryz.results108) Tryz.ntmps108 (fun B hB => fA ?_)
  cases o with
  | none =>
    obtain ⟨hc, k, hp, hk⟩ := hr
    have h1 : (c != 0) = true := by simpa using hc
    refine Wv (Yy hb (Yy h1 Y0)) ?_
    refine rX ?_
    exact ⟨rfl, RrTo.same h0⟩
  | some l =>
    obtain ⟨rfl, k, rfl, hk, hl⟩ := hr
    refine Wv (Yy hb Y0) ?_
    refine AW.loopS 10 [6, 7, 8, 9] (fun xs S' => ∃ j y : Nat, xs = [uD y, uD (2 ^ (7 * j) : Nat), iD j, .any] ∧ S' = ⟨setM S.bk b (rrD s (k + j : Nat) 0), S.ow⟩ ∧ j ≤ 9 ∧ j ≤ l.length ∧ y < 2 ^ (7 * j) ∧ vrd l 0 0 = vrd (l.drop j) (7 * j) y) (fun xs _ => 9 - nI (xs.getD 2 .any)) [uD 0, uD 1, iD 0, .any] S ?_ (Sto.Sub.refl _) ⟨0, 0, rfl, by rw [Nat.add_zero, setM_same hb], by omega, by omega, by simp, rfl⟩ ?_
    · exact wK
    rintro xs S' ⟨j, y, rfl, hS', hj, hjl, hy, HV⟩
    refine fR ?_
    have hb2 : getM S'.bk b = some (t, rrD s (k + j : Nat) 0) := by rw [hS', getM_setM, hb]; rfl
    have hfail : ∀ c p : Int, (⟨setM S'.bk b (rrD s p c), S'.ow⟩ : Sto) = ⟨setM S.bk b (rrD s p c), S.ow⟩ := fun c p => by rw [hS']; simp only [setM_setM]
    by_cases hjn : j < l.length
    · have hkj : k + j < s.length := by omega
      obtain ⟨u, hu⟩ : ∃ u, s[k + j]? = some u := ⟨_, List.getElem?_eq_getElem hkj⟩
      have hdr : l.drop j = u :: l.drop (j + 1) := by
        rw [List.drop_eq_getElem_cons hjn]
        congr 1
        have h1 : l[j]? = some u := by rw [hl, List.getElem?_drop]; exact hu
        rw [List.getElem?_eq_getElem hjn] at h1
        exact Option.some.inj h1
      rw [hdr, vrd_cons] at HV
      have hul : u.toNat < 256 := u.toNat_lt
      have b1 : (((k + j : Nat) : Int) == (s.length : Int)) = false := by rw [beq_eq_false_iff_ne]; omega
      have f3 : IntKind.u64.wrap (u.toNat : Int) = u.toNat := by rw [IntKind.wrap_u64]; omega
      have f6 : (0 : Int) ≤ ((k + j : Nat) : Int) := by omega
      have f5 : IntKind.i64.wrap (((k + j : Nat) : Int) + 1) = ((k + (j + 1) : Nat) : Int) := by rw [show ((k + j : Nat) : Int) + 1 = ((k + (j + 1) : Nat) : Int) by omega]; exact IntWalk.i64_in _ (by omega)
      by_cases hbad : j = 9 ∧ 1 < u.toNat
      · obtain ⟨rfl, hc1⟩ := hbad
        rw [if_pos (.inl ⟨rfl, hc1⟩)] at HV
        have e2 := freeP_bad (m := m) HV
        have d1 : decide ((u.toNat : Int) > 1) = true := decide_eq_true (by omega)
        have d2 : (((9 : Nat) : Int) == 9) = true := rfl
        refine Wv (Yy hb2 (Yy b1 (Yy f3 (Yy f6 (Yy hu (Yy d1 (Yy d2 (Yy Int.toNat_natCast Y0)))))))) ?_
        refine cQ (aFail b s _ 0 11 k S' t hb2) ?_
        refine Wv Y0 ?_
        refine rX ?_
        rw [gv_none e2, gr_none e2]
        exact ⟨rfl, k, 11, hfail _ _, by omega, k, rfl, by omega⟩
      · have b128 : IntKind.u64.wrap ((((u.toNat : Int).tmod 128)) * ((2 ^ (7 * j) : Nat) : Int)) = ((u.toNat % 128 * 2 ^ (7 * j) : Nat) : Int) ∧ IntKind.u64.wrap ((y : Int) + ((u.toNat % 128 * 2 ^ (7 * j) : Nat) : Int)) = ((y + u.toNat % 128 * 2 ^ (7 * j) : Nat) : Int) := by
          have hlt : y + u.toNat % 128 * 2 ^ (7 * j) < 18446744073709551616 := by
            by_cases h9 : j = 9
            · subst h9
              have : u.toNat ≤ 1 := by omega
              have h2 : u.toNat % 128 * 2 ^ (7 * 9) ≤ 1 * 2 ^ (7 * 9) := Nat.mul_le_mul_right _ (by omega)
              have h3 : (2 : Nat) ^ (7 * 9) = 9223372036854775808 := by decide
              rw [h3] at *
              omega
            · have h2 : u.toNat % 128 * 2 ^ (7 * j) ≤ 127 * 2 ^ (7 * j) := Nat.mul_le_mul_right _ (by omega)
              have h3 : (2 : Nat) ^ (7 * j) ≤ 2 ^ (7 * 8) := Nat.pow_le_pow_right (by omega) (by omega)
              have h4 : (2 : Nat) ^ (7 * 8) = 72057594037927936 := by decide
              rw [h4] at h3
              omega
          have ht : (u.toNat : Int).tmod 128 = ((u.toNat % 128 : Nat) : Int) := by rw [Int.tmod_eq_emod_of_nonneg (by omega)]; omega
          have hm' : ((u.toNat % 128 : Nat) : Int) * ((2 ^ (7 * j) : Nat) : Int) = ((u.toNat % 128 * 2 ^ (7 * j) : Nat) : Int) := by rw [← Int.natCast_mul]
          rw [ht, hm']
          generalize u.toNat % 128 * 2 ^ (7 * j) = z at *
          constructor
          · rw [IntKind.wrap_u64]; omega
          · rw [IntKind.wrap_u64]; omega
        obtain ⟨g1, g2⟩ := b128
        have hd9 : ((j : Int) == 9) = true → decide ((u.toNat : Int) > 1) = false := fun h => decide_eq_false (by
          have h3 : (j : Int) = 9 := by simpa using h
          intro h2; exact hbad ⟨by omega, by omega⟩)
        have hHV := HV
        by_cases hsm : u.toNat < 128
        · have d3 : decide ((u.toNat : Int) < 128) = true := decide_eq_true (by omega)
          have hmod : u.toNat % 128 = u.toNat := Nat.mod_eq_of_lt hsm
          by_cases hz : 0 < j ∧ u.toNat = 0
          · have d4 : ((u.toNat : Int) == 0) = true := by rw [beq_iff_eq]; omega
            have d5 : decide ((j : Int) > 0) = true := decide_eq_true (by omega)
            rw [if_pos (.inr ⟨by omega, hz.2⟩)] at HV
            have e2 := freeP_bad (m := m) HV
            cases d2 : ((j : Int) == 9)
            all_goals
              first | have d1 := hd9 d2 | have d1 : True := trivial
              refine Wv (Yy hb2 (Yy b1 (Yy f3 (Yy f5 (Yy f6 (Yy hu (Yy d1 (Yy d2 (Yy d3 (Yy d4 (Yy d5 (Yy g1 (Yy g2 (Yy Int.toNat_natCast Y0)))))))))))))) ?_
              refine cQ (aFail b s _ 0 11 k ⟨setM S'.bk b (rrD s (k + (j + 1) : Nat) 0), S'.ow⟩ t (by rw [getM_setM, hb2]; rfl)) ?_
              refine Wv Y0 ?_
              refine rX ?_
              rw [gv_none e2, gr_none e2]
              exact ⟨rfl, k, 11, hfail _ _, by omega, k, rfl, by omega⟩
          · rw [if_neg (by rintro (⟨h1, h2⟩ | ⟨h1, h2⟩)
                           · exact hbad ⟨by omega, h2⟩
                           · exact hz ⟨by omega, h2⟩), if_pos hsm] at HV
            rw [hmod] at g1 g2
            obtain ⟨n, hn⟩ : ∃ n, y + u.toNat * 2 ^ (7 * j) = n := ⟨_, rfl⟩
            rw [hn] at g2 HV
            have d4 : ((u.toNat : Int) == 0) = true → decide ((j : Int) > 0) = false := fun h => decide_eq_false (by
              have h3 : (u.toNat : Int) = 0 := by simpa using h
              intro h2; exact hz ⟨by omega, by omega⟩)
            by_cases hbig : m < n
            · have d6 : decide ((n : Int) > m) = true := decide_eq_true (by omega)
              have e2 := freeP_big HV hbig
              cases d2 : ((j : Int) == 9)
              all_goals
                first | have d1 := hd9 d2 | have d1 : True := trivial
                cases d5 : ((u.toNat : Int) == 0)
              all_goals
                first | have d7 := d4 d5 | have d7 : True := trivial
                refine Wv (Yy hb2 (Yy b1 (Yy f3 (Yy f5 (Yy f6 (Yy hu (Yy d1 (Yy d2 (Yy d3 (Yy d5 (Yy d6 (Yy d7 (Yy g1 (Yy g2 (Yy Int.toNat_natCast Y0))))))))))))))) ?_
                refine cQ (aFail b s _ 0 12 k ⟨setM S'.bk b (rrD s (k + (j + 1) : Nat) 0), S'.ow⟩ t (by rw [getM_setM, hb2]; rfl)) ?_
                refine Wv Y0 ?_
                refine rX ?_
                rw [gv_none e2, gr_none e2]
                exact ⟨rfl, k, 12, hfail _ _, by omega, k, rfl, by omega⟩
            · have d6 : decide ((n : Int) > m) = false := decide_eq_false (by omega)
              have e2 := freeP_fit HV (Nat.le_of_not_lt hbig)
              cases d2 : ((j : Int) == 9)
              all_goals
                first | have d1 := hd9 d2 | have d1 : True := trivial
                cases d5 : ((u.toNat : Int) == 0)
              all_goals
                first | have d7 := d4 d5 | have d7 : True := trivial
                refine Wv (Yy hb2 (Yy b1 (Yy f3 (Yy f5 (Yy f6 (Yy hu (Yy d1 (Yy d2 (Yy d3 (Yy d5 (Yy d6 (Yy d7 (Yy g1 (Yy g2 (Yy Int.toNat_natCast Y0))))))))))))))) ?_
                refine rX ?_
                rw [gv_some e2, gr_some e2]
                exact ⟨rfl, (k + (j + 1) : Nat), 0, hfail _ _, rfl, k + (j + 1), rfl, by simp; omega, by rw [hl, List.drop_drop]⟩
        · have d3 : decide ((u.toNat : Int) < 128) = false := decide_eq_false (by omega)
          have h9 : j ≠ 9 := fun h => hbad ⟨h, by omega⟩
          have d2 : ((j : Int) == 9) = false := by rw [beq_eq_false_iff_ne]; omega
          rw [if_neg (by rintro (⟨h1, h2⟩ | ⟨h1, h2⟩)
                         · exact hbad ⟨by omega, h2⟩
                         · omega), if_neg hsm] at HV
          have f7 : IntKind.u64.wrap (((2 ^ (7 * j) : Nat) : Int) * 128) = ((2 ^ (7 * (j + 1)) : Nat) : Int) := by
            rw [pow7]
            have h3 : (2 : Nat) ^ (7 * j) ≤ 2 ^ (7 * 8) := Nat.pow_le_pow_right (by omega) (by omega)
            have h4 : (2 : Nat) ^ (7 * 8) = 72057594037927936 := by decide
            rw [h4] at h3
            generalize 2 ^ (7 * j) = z at *
            rw [IntKind.wrap_u64]; omega
          have f8 : IntKind.i64.wrap ((j : Int) + 1) = ((j + 1 : Nat) : Int) := IntWalk.i64_in _ (by omega)
          have hlt : y + u.toNat % 128 * 2 ^ (7 * j) < 2 ^ (7 * (j + 1)) := by
            rw [pow7]
            have h2 : (u.toNat % 128 + 1) * 2 ^ (7 * j) ≤ 128 * 2 ^ (7 * j) := Nat.mul_le_mul_right _ (by omega)
            rw [Nat.add_mul] at h2
            omega
          refine Wv (Yy hb2 (Yy b1 (Yy f3 (Yy f5 (Yy f6 (Yy f7 (Yy f8 (Yy hu (Yy d2 (Yy d3 (Yy g1 (Yy g2 (Yy Int.toNat_natCast Y0))))))))))))) ?_
          refine ⟨[uD (y + u.toNat % 128 * 2 ^ (7 * j) : Nat), uD (2 ^ (7 * (j + 1)) : Nat), iD (j + 1 : Nat), .any], _, ?_, Sto.Sub.refl _, ⟨j + 1, _, rfl, hfail _ _, by omega, by omega, hlt, HV⟩, ?_⟩
          · exact wK
          · exact mE
    · have hnil : l.drop j = [] := List.drop_eq_nil_of_le (by omega)
      rw [hnil, vrd_nil] at HV
      have e2 := freeP_bad (m := m) HV
      have b1 : (((k + j : Nat) : Int) == (s.length : Int)) = true := by rw [beq_iff_eq]; omega
      refine Wv (Yy hb2 (Yy b1 Y0)) ?_
      refine cQ (aFail b s _ 0 10 k S' t hb2) ?_
      refine Wv Y0 ?_
      refine rX ?_
      rw [gv_none e2, gr_none e2]
      exact ⟨rfl, k, 10, hfail _ _, by omega, k, rfl, by omega⟩


def widN (w:Int):Nat:=if w<0 then 0 else if 32<w then 32 else w.toNat

theorem aWidth (w:Int) (S:Sto):ACalls Tryz.prog 169 [iD w] S (RetQ (iD (widN w:Nat)) S):=by
 refine acalls_of prg Tryz.func169 rfl (by kernel_rfl) (congrArg Array.toList Tryz.results169) Tryz.ntmps169 (fun B hB=>fA ?_)
 by_cases h1:w<0
 ·have d1:decide (w<0)=true:=decide_eq_true h1
  have e:widN w=0:=by unfold widN;rw [if_pos h1]
  rw [e]
  refine Wv d1 ?_
  exact rE
 ·have d1:decide (w<0)=false:=decide_eq_false h1
  by_cases h2:32<w
  ·have d2:decide (w > 32)=true:=decide_eq_true h2
   have e:widN w=32:=by unfold widN;rw [if_neg h1,if_pos h2]
   rw [e]
   refine Wv (Yy d1 d2) ?_
   exact rE
  ·have d2:decide (w > 32)=false:=decide_eq_false h2
   have e:((widN w:Nat):Int)=w:=by unfold widN;rw [if_neg h1,if_neg h2];omega
   rw [e]
   refine Wv (Yy d1 d2) ?_
   exact rE

theorem aBound (m:Nat) (S:Sto) (hm:m≤9223372036854775807):ACalls Tryz.prog 109 [iD m] S (RetQ (uD m) S):=by
 have d1:decide ((m:Int)<0)=false:=decide_eq_false (by omega)
 have f1:IntKind.u64.wrap (m:Int)=m:=by rw [IntKind.wrap_u64];omega
 refine acalls_of prg Tryz.func109 rfl (by kernel_rfl) (congrArg Array.toList Tryz.results109) Tryz.ntmps109 (fun B hB=>fA ?_)
 refine Wv (Yy d1 f1) ?_
 exact rE

theorem aText (b m:Nat) (s:Bs) (o:Option Bs) (S:Sto) (h:RrSt S b s o) (hs:s.length≤140737488351232) (hm:m≤9223372036854775807) :
  ACalls Tryz.prog 72 [pD b,iD m] S (fun e S'=>∃ d,e=.ret d∧d=sD (gv (textP m) [] o)∧RrTo S b s (gr (textP m) o) S'):=by
 have h0:=h
 obtain ⟨t,p,c,hb,hr⟩:=h
 refine acalls_of prg Tryz.func72 rfl (by kernel_rfl) (congrArg Array.toList Tryz.results72) Tryz.ntmps72 (fun B hB=>fA ?_)
 refine Wv hb ?_
 refine cQ (aBound m S hm) ?_
 refine Wv Y0 ?_
 refine cX (aFree b m s o S h0 hs (by omega)) ?_
 rintro d S1 ⟨rfl,hS1⟩
 have h1:=hS1.st h0
 obtain ⟨t1,p1,c1,hb1,hr1⟩:=h1
 cases o with
 | none=>
  have hn:gr (freeP m) none=none:=rfl
  rw [hn] at hr1 hS1
  obtain ⟨hc,k,hp,hk⟩:=hr1
  have d1:(c1 != 0)=true:=by simpa using hc
  refine Wv (Yy hb1 d1) ?_
  refine rX ?_
  exact ⟨rfl,hS1⟩
 | some l=>
  obtain ⟨rfl,k,rfl,hk,hl⟩:=hr
  cases hf:freeP m l with
  | none=>
   have e2:textP m l=none:=by unfold textP;rw [hf]
   rw [gr_none hf] at hr1 hS1
   obtain ⟨hc,k1,hp,hk1⟩:=hr1
   have d1:(c1 != 0)=true:=by simpa using hc
   refine Wv (Yy hb1 d1) ?_
   refine rX ?_
   rw [gv_none e2,gr_none e2]
   exact ⟨rfl,hS1⟩
  | some r=>
   obtain ⟨n,l'⟩:=r
   have e2:textP m l=rawP n l':=by unfold textP;rw [hf]
   have hnm:=(freeP_rest hf).2.2
   rw [gr_some hf] at hr1 hS1
   rw [gv_some hf]
   have hst:RrSt S1 b s (some l'):=⟨t1,p1,c1,hb1,hr1⟩
   obtain ⟨rfl,k1,rfl,hk1,hl1⟩:=hr1
   have d1:((0:Int) != 0)=false:=rfl
   have f1:IntKind.u64.wrap ((s.length:Int) - k1)=((l'.length:Nat):Int):=by rw [IntKind.wrap_u64];omega
   refine Wv (Yy hb1 d1) ?_
   refine cQ (aLeft b s k1 0 S1 t1 hb1 (by omega) (by omega) hs) ?_
   by_cases hle:n≤l'.length
   ·have d2:decide ((n:Int) > ((l'.length:Nat):Int))=false:=decide_eq_false (by omega)
    have f2:IntKind.i64.wrap (n:Int)=n:=IntWalk.i64_in _ (by omega)
    refine Wv (Yy hb1 (Yy f1 (Yy d2 f2))) ?_
    refine cX (aRaw b n s _ S1 hst (by omega) hs) ?_
    rintro d S2 ⟨rfl,hS2⟩
    refine Wv Y0 ?_
    refine rX ?_
    rw [Int.toNat_natCast] at *
    have e3:rawP n l'=some (l'.take n,l'.drop n):=by simp [rawP,hle]
    rw [gv_some (e2.trans e3),gr_some (e2.trans e3)]
    rw [gr_some e3] at hS2
    exact ⟨by rw [gv_some e3],hS1.trans hS2⟩
   ·have d2:decide ((n:Int) > ((l'.length:Nat):Int))=true:=decide_eq_true (by omega)
    have e3:textP m l=none:=by rw [e2];simp [rawP,hle]
    refine Wv (Yy hb1 (Yy f1 d2)) ?_
    refine cQ (aFail b s _ 0 10 k S1 t1 hb1) ?_
    refine Wv Y0 ?_
    refine rX ?_
    rw [gv_none e3,gr_none e3]
    exact ⟨rfl,hS1.trans ⟨k,10,rfl,by omega,k,rfl,by omega⟩⟩

def countP (m:Nat) (l:Bs):Option (Nat×Bs):=
 match freeP m l with
 | none=>none
 | some (n,l')=>if n≤l'.length then some (n,l') else none

theorem aCount (b m:Nat) (s:Bs) (o:Option Bs) (S:Sto) (h:RrSt S b s o) (hs:s.length≤140737488351232) (hm:m≤9223372036854775807) :
  ACalls Tryz.prog 71 [pD b,iD m] S (fun e S'=>∃ d,e=.ret d∧d=iD (gv (countP m) 0 o:Nat)∧RrTo S b s (gr (countP m) o) S'):=by
 have h0:=h
 obtain ⟨t,p,c,hb,hr⟩:=h
 refine acalls_of prg Tryz.func71 rfl (by kernel_rfl) (congrArg Array.toList Tryz.results71) Tryz.ntmps71 (fun B hB=>fA ?_)
 refine Wv hb ?_
 refine cQ (aBound m S hm) ?_
 refine Wv Y0 ?_
 refine cX (aFree b m s o S h0 hs (by omega)) ?_
 rintro d S1 ⟨rfl,hS1⟩
 have h1:=hS1.st h0
 obtain ⟨t1,p1,c1,hb1,hr1⟩:=h1
 cases o with
 | none=>
  have hn:gr (freeP m) none=none:=rfl
  rw [hn] at hr1 hS1
  obtain ⟨hc,k,hp,hk⟩:=hr1
  have d1:(c1 != 0)=true:=by simpa using hc
  refine Wv (Yy hb1 d1) ?_
  refine rX ?_
  exact ⟨rfl,hS1⟩
 | some l=>
  obtain ⟨rfl,k,rfl,hk,hl⟩:=hr
  cases hf:freeP m l with
  | none=>
   have e2:countP m l=none:=by unfold countP;rw [hf]
   rw [gr_none hf] at hr1 hS1
   obtain ⟨hc,k1,hp,hk1⟩:=hr1
   have d1:(c1 != 0)=true:=by simpa using hc
   refine Wv (Yy hb1 d1) ?_
   refine rX ?_
   rw [gv_none e2,gr_none e2]
   exact ⟨rfl,hS1⟩
  | some r=>
   obtain ⟨n,l'⟩:=r
   have e2:countP m l=if n≤l'.length then some (n,l') else none:=by unfold countP;rw [hf]
   have hnm:=(freeP_rest hf).2.2
   rw [gr_some hf] at hr1 hS1
   rw [gv_some hf]
   obtain ⟨rfl,k1,rfl,hk1,hl1⟩:=hr1
   have d1:((0:Int) != 0)=false:=rfl
   have f1:IntKind.u64.wrap ((s.length:Int) - k1)=((l'.length:Nat):Int):=by rw [IntKind.wrap_u64];omega
   refine Wv (Yy hb1 d1) ?_
   refine cQ (aLeft b s k1 0 S1 t1 hb1 (by omega) (by omega) hs) ?_
   by_cases hle:n≤l'.length
   ·have d2:decide ((n:Int) > ((l'.length:Nat):Int))=false:=decide_eq_false (by omega)
    have f2:IntKind.i64.wrap (n:Int)=n:=IntWalk.i64_in _ (by omega)
    rw [if_pos hle] at e2
    refine Wv (Yy hb1 (Yy f1 (Yy d2 f2))) ?_
    refine rX ?_
    rw [gv_some e2,gr_some e2]
    exact ⟨rfl,hS1⟩
   ·have d2:decide ((n:Int) > ((l'.length:Nat):Int))=true:=decide_eq_true (by omega)
    rw [if_neg hle] at e2
    refine Wv (Yy hb1 (Yy f1 d2)) ?_
    refine cQ (aFail b s _ 0 12 k S1 t1 hb1) ?_
    refine Wv Y0 ?_
    refine rX ?_
    rw [gv_none e2,gr_none e2]
    exact ⟨rfl,hS1.trans ⟨k,12,rfl,by omega,k,rfl,by omega⟩⟩

def digP (w:Nat) (l:Bs):Option (Dg×Bs):=(rawP w l).map fun p=>(Dg.pad p.1,p.2)
def padTo (s:Bs) (i:Nat):Dg:=Dg.pad (s.take i)
theorem padTo_set (s:Bs) (i:Nat) (u:UInt8) (hu:s[i]?=some u) (hi:i<32):(padTo s i).setB i u.toNat=padTo s (i+1):=by
 have hlt:i<s.length:=(List.getElem?_eq_some_iff.1 hu).1
 apply Dg.ext'
 show (padB (s.take i)).set i (UInt8.ofNat u.toNat)=padB (s.take (i+1))
 have h1:(s.take i).length=i:=by rw [List.length_take];omega
 have h2:(s.take (i+1)).length=i+1:=by rw [List.length_take];omega
 unfold padB
 rw [h1,h2,List.take_of_length_le (show (s.take i).length≤32 by omega),List.take_of_length_le (show (s.take (i+1)).length≤32 by omega),UInt8.ofNat_toNat]
 have h3:s.take (i+1)=s.take i++[u]:=by rw [List.take_add_one,hu];rfl
 rw [h3]
 rw [show 32 - i=(32 - (i+1))+1 by omega,List.replicate_succ]
 rw [List.set_append_right _ _ (by omega),h1,Nat.sub_self,List.set_cons_zero]
 simp

theorem RrSt.cons {S:Sto} {b c:Nat} {s:Bs} {o:Option Bs} {t:TypeId} {d:D} (h:RrSt S b s o) (hc:c ∉ S.bk.map (·.1)):RrSt ⟨(c,t,d)::S.bk,S.ow⟩ b s o:=by
 obtain ⟨t',p,k,h1,h2⟩:=h
 exact ⟨t',p,k,by rw [getM_cons,if_neg (getM_ne h1 hc)];exact h1,h2⟩
theorem RrSt.cons' {bk:List (Nat×TypeId×D)} {ow:List (Nat×Nat)} {b c:Nat} {s:Bs} {o:Option Bs} {t:TypeId} {d:D} (h:RrSt ⟨bk,ow⟩ b s o) (hc:c ∉ bk.map (·.1)):RrSt ⟨(c,t,d)::bk,ow⟩ b s o:=h.cons hc
theorem RrTo.cons {S S1:Sto} {b c:Nat} {s:Bs} {o:Option Bs} {t:TypeId} {d:D} (h:RrTo ⟨(c,t,d)::S.bk,S.ow⟩ b s o S1) (hc:¬ b=c):∃ S2,RrTo S b s o S2∧S1=⟨(c,t,d)::S2.bk,S2.ow⟩:=by
 obtain ⟨p,k,rfl,h2⟩:=h
 exact ⟨_,⟨p,k,rfl,h2⟩,by simp only [setM_cons,if_neg hc]⟩
theorem RrTo.cons' {bk:List (Nat×TypeId×D)} {ow:List (Nat×Nat)} {S1:Sto} {b c:Nat} {s:Bs} {o:Option Bs} {t:TypeId} {d:D} (h:RrTo ⟨(c,t,d)::bk,ow⟩ b s o S1) (hc:¬ b=c):∃ S2,RrTo ⟨bk,ow⟩ b s o S2∧S1=⟨(c,t,d)::S2.bk,S2.ow⟩:=RrTo.cons (S:=⟨bk,ow⟩) h hc
theorem RrSt.ne {S:Sto} {b c:Nat} {s:Bs} {o:Option Bs} (h:RrSt S b s o) (hc:c ∉ S.bk.map (·.1)):¬ b=c:=by
 obtain ⟨t',p,k,h1,h2⟩:=h
 exact getM_ne h1 hc

theorem aDigest (b:Nat) (w:Int) (s:Bs) (o:Option Bs) (S:Sto) (h:RrSt S b s o) (hs:s.length≤140737488351232) :
  ACalls Tryz.prog 146 [pD b,iD w] S (fun e S'=>∃ d,e=.ret d∧d=.dg (gv (digP (widN w)) Dg.zero o)∧RrTo S b s (gr (digP (widN w)) o) S'):=by
 have hw:widN w≤32:=by unfold widN;split <;> (try split) <;> omega
 have hx1:gv (digP (widN w)) Dg.zero o=Dg.pad (gv (rawP (widN w)) [] o)∧gr (digP (widN w)) o=gr (rawP (widN w)) o∧(gv (rawP (widN w)) [] o).length≤32:=by
  cases o with
  | none=>exact ⟨rfl,rfl,by simp [gv]⟩
  | some l=>
   cases hr:rawP (widN w) l with
   | none=>exact ⟨by simp [gv,digP,hr,Dg.zero],by simp [gr,digP,hr],by simp [gv,hr]⟩
   | some q=>
    refine ⟨by simp [gv,digP,hr],by simp [gr,digP,hr],?_⟩
    simp only [gv,Option.bind_some,hr,Option.map_some,Option.getD_some]
    unfold rawP at hr
    split at hr
    ·simp only [Option.some.injEq] at hr;rw [← hr];simp;omega
    ·cases hr
 obtain ⟨hx1,hx2,hx3⟩:=hx1
 rw [hx1,hx2]
 refine acalls_of prg Tryz.func146 rfl (by kernel_rfl) (congrArg Array.toList Tryz.results146) Tryz.ntmps146 (fun B hB=>fA ?_)
 refine Wv Y0 ?_
 refine aL fun b1 k_b1 o_b1=>?_
 refine Wv Y0 ?_
 refine cQ (aWidth w _) ?_
 refine Wv Y0 ?_
 have hn1:=h.ne k_b1
 refine cX (aRaw b (widN w:Nat) s o _ (h.cons k_b1) (by omega) hs) ?_
 rintro d S1 ⟨rfl,hS1⟩
 rw [Int.toNat_natCast] at *
 obtain ⟨x,hx⟩:∃ x,gv (rawP (widN w)) [] o=x:=⟨_,rfl⟩
 rw [hx] at hx3 ⊢
 obtain ⟨S2,hS2,rfl⟩:=hS1.cons hn1
 refine Wv Y0 ?_
 refine aL fun b2 k_b2 o_b2=>?_
 have hn2:¬ b1=b2:=fun e=>k_b2.1 e.symm
 refine Wv Y0 ?_
 refine AW.loopS 8 [7] (fun xs S'=>∃ i:Nat,xs=[iD i]∧S'=⟨(b2,36,.dg (padTo x i))::(b1,36,.dg Dg.zero)::S2.bk,S2.ow⟩∧i≤x.length) (fun xs _=>x.length - nI (xs.getD 0 .any)) [iD 0] _ ?_ (Sto.Sub.refl _) ⟨0,rfl,rfl,by omega⟩ ?_
 ·exact wK
 rintro xs S' ⟨i,rfl,rfl,hi⟩
 refine fR ?_
 by_cases hlt:i<x.length
 ·have d1:decide ((i:Int)<(x.length:Nat))=true:=decide_eq_true (by omega)
  obtain ⟨u,hu⟩:∃ u,x[i]?=some u:=⟨_,List.getElem?_eq_getElem hlt⟩
  have c1:(0:Int)≤(i:Int):=by omega
  have c2:(0:Int)≤(i:Int)∧(i:Int)<32:=by omega
  have c3:i<32∧(0:Int)≤(u.toNat:Int)∧(u.toNat:Int)<256:=by have:=u.toNat_lt;omega
  have f1:IntKind.i64.wrap ((i:Int)+1)=((i+1:Nat):Int):=IntWalk.i64_in _ (by omega)
  have hset:=padTo_set x i u hu (by omega)
  have c4:¬ (i=0∧32=1∧true=false):=by simp
  refine Wv (Yy d1 (Yy hu (Yy c1 (Yy c2 (Yy c3 (Yy f1 (Yy hset (Yy hn2 (Yy Int.toNat_natCast Nat.zero_add))))))))) ?_
  refine ⟨[iD (i+1:Nat)],_,?_,Sto.Sub.refl _,⟨i+1,rfl,rfl,by omega⟩,?_⟩
  ·exact wK
  ·exact mE
 ·have d1:decide ((i:Int)<(x.length:Nat))=false:=decide_eq_false (by omega)
  have hpad:padTo x i=Dg.pad x:=by unfold padTo;rw [List.take_of_length_le (by omega)]
  rw [hpad]
  have hn3:¬ b2=b1:=fun e=>hn2 e.symm
  have hn4:¬ b1=b2:=hn2
  refine Wv (Yy d1 (Yy hn3 hn4)) ?_
  refine endx (sR (Yy hn3 hn4)) (by rfl) (Sto.Sub.cons (Sto.Sub.cons (Sto.Sub.refl _))) ⟨rfl,hS2⟩


def looseN (kind:Nat) (pg:Bool) (w L:Nat):Nat→Nat→Option Bs→Nd→Nd
 | 0,_,_,n=>n
 | _+1,_,none,n=>n
 | f+1,i,some l,n=>
  if kind=1 then
   looseN kind pg w L f (i+1) (gr (textP L) (gr (textP L) (some l))) { n with pairs:=n.pairs++[(gv (textP L) [] (some l),gv (textP L) [] (gr (textP L) (some l)))] }
  else
   let o1:=if 0<i then gr (textP L) (some l) else some l
   let ss:=if 0<i then n.seps++[gv (textP L) [] (some l)] else n.seps
   let pg':=if pg then gv (takeP 4) 0 o1 else 0
   let o2:=if pg then gr (takeP 4) o1 else o1
   looseN kind pg w L f (i+1) (gr (digP w) o2) { n with seps:=ss,kids:=n.kids++[⟨pg',gv (digP w) Dg.zero o2⟩] }
def looseP (pg:Bool) (w:Nat) (s:Bs):Nd:=
 looseN (gv (takeP 1) 0 (some s)) pg w s.length (gv (countP s.length) 0 (gr (takeP 1) (some s))) 0 (gr (countP s.length) (gr (takeP 1) (some s))) ⟨[],[],[]⟩

theorem nes {a b:Nat} (h:¬ a=b):¬ b=a:=fun e=>h e.symm
theorem RrTo.head {b:Nat} {t:TypeId} {d:D} {bk:List (Nat×TypeId×D)} {ow:List (Nat×Nat)} {s:Bs} {o:Option Bs} {S1:Sto} (h:RrTo ⟨(b,t,d)::bk,ow⟩ b s o S1):∃ p c,S1=⟨(b,t,rrD s p c)::bk,ow⟩∧RrIs s o p c:=by
 obtain ⟨p,c,rfl,h2⟩:=h
 exact ⟨p,c,by simp only [setM_cons,if_true],h2⟩
theorem RrSt.head {b:Nat} {t:TypeId} {p c:Int} {bk:List (Nat×TypeId×D)} {ow:List (Nat×Nat)} {s:Bs} {o:Option Bs} (h:RrIs s o p c):RrSt ⟨(b,t,rrD s p c)::bk,ow⟩ b s o:=⟨t,p,c,by simp only [getM_cons,if_true],h⟩
theorem looseN_none (kind:Nat) (pg:Bool) (w L f i:Nat) (n:Nd):looseN kind pg w L f i none n=n:=by cases f <;> rfl
theorem looseN_pair {kind:Nat} (h:kind=1) (pg:Bool) (w L f i:Nat) (l:Bs) (n:Nd):looseN kind pg w L (f+1) i (some l) n=looseN kind pg w L f (i+1) (gr (textP L) (gr (textP L) (some l))) { n with pairs:=n.pairs++[(gv (textP L) [] (some l),gv (textP L) [] (gr (textP L) (some l)))] }:=by
 rw [looseN,if_pos h]
theorem looseN_kid {kind : Nat} (h : ¬ kind = 1) (pg : Bool) (w L f i : Nat) (l : Bs) (n : Nd) : looseN kind pg w L (f + 1) i (some l) n =
      (let o1 := if 0 < i then gr (textP L) (some l) else some l
      let ss := if 0 < i then n.seps ++ [gv (textP L) [] (some l)] else n.seps
      let pg' := if pg then gv (takeP 4) 0 o1 else 0
      let o2 := if pg then gr (takeP 4) o1 else o1
      looseN kind pg w L f (i + 1) (gr (digP w) o2) { n with seps := ss, kids := n.kids ++ [⟨pg', gv (digP w) Dg.zero o2⟩] }) := by
  rw [looseN, if_neg h]

structure NdGrw (ow0 ow:List (Nat×Nat)) (tp ts tk:Tag) (n:Nd):Prop where
 p:Grw ow 73 2 tp (n.pairs.map prD)
 s:Grw ow 9 1 ts (n.seps.map sD)
 k:Grw ow 150 33 tk (n.kids.map kdD)
 ps:∀ b,tagB tp=some b→tagB ts≠some b
 pk:∀ b,tagB tp=some b→tagB tk≠some b
 sk:∀ b,tagB ts=some b→tagB tk≠some b
 sub:List.Sublist ow0 ow
 out:∀ b,tagB tp=some b∨tagB ts=some b∨tagB tk=some b→b ∉ ow0.map (·.1)
theorem NdGrw.nil (ow:List (Nat×Nat)):NdGrw ow ow .nil .nil .nil ⟨[],[],[]⟩:=by
 refine ⟨Grw.nil _ _ _,Grw.nil _ _ _,Grw.nil _ _ _,?_,?_,?_,List.Sublist.refl _,?_⟩ <;> simp [tagB]
theorem NdGrw.addP {ow0 ow:List (Nat×Nat)} {tp ts tk:Tag} {n:Nd} (h:NdGrw ow0 ow tp ts tk n) (x:Pr) {g:Nat} (hg:g ∉ (dropTok tp ow).map (·.1)) :
  NdGrw ow0 ((g,(n.pairs.map prD++[prD x]).length*2)::dropTok tp ow) (.own g 73 2) ts tk { n with pairs:=n.pairs++[x] }:=by
 have hps:∀ b,tagB ts=some b→tagB tp≠some b:=fun b hb hc=>h.ps b hc hb
 have hpk:∀ b,tagB tk=some b→tagB tp≠some b:=fun b hb hc=>h.pk b hc hb
 have f1:=h.s.fresh hps hg
 have f2:=h.k.fresh hpk hg
 refine ⟨?_,h.s.keep hps,h.k.keep hpk,?_,?_,h.sk,drop_keep h.sub (fun b hb=>h.out b (.inl hb)),?_⟩
 ·simp only [List.map_append,List.map_cons,List.map_nil];exact Grw.new
 ·intro b hb hc;simp only [tagB,Option.some.injEq] at hb;exact f1 b hc hb
 ·intro b hb hc;simp only [tagB,Option.some.injEq] at hb;exact f2 b hc hb
 ·rintro b (hb | hb | hb)
  ·simp only [tagB,Option.some.injEq] at hb;subst hb;exact fresh_keep h.sub (fun b hb=>h.out b (.inl hb)) hg
  ·exact h.out b (.inr (.inl hb))
  ·exact h.out b (.inr (.inr hb))
theorem NdGrw.addS {ow0 ow:List (Nat×Nat)} {tp ts tk:Tag} {n:Nd} (h:NdGrw ow0 ow tp ts tk n) (x:Bs) {g:Nat} (hg:g ∉ (dropTok ts ow).map (·.1)) :
  NdGrw ow0 ((g,(n.seps.map sD++[sD x]).length*1)::dropTok ts ow) tp (.own g 9 1) tk { n with seps:=n.seps++[x] }:=by
 have hsk:∀ b,tagB tk=some b→tagB ts≠some b:=fun b hb hc=>h.sk b hc hb
 have f1:=h.p.fresh h.ps hg
 have f2:=h.k.fresh hsk hg
 refine ⟨h.p.keep h.ps,?_,h.k.keep hsk,?_,h.pk,?_,drop_keep h.sub (fun b hb=>h.out b (.inr (.inl hb))),?_⟩
 ·simp only [List.map_append,List.map_cons,List.map_nil];exact Grw.new
 ·intro b hb hc;simp only [tagB,Option.some.injEq] at hc;exact f1 b hb hc
 ·intro b hb hc;simp only [tagB,Option.some.injEq] at hb;exact f2 b hc hb
 ·rintro b (hb | hb | hb)
  ·exact h.out b (.inl hb)
  ·simp only [tagB,Option.some.injEq] at hb;subst hb;exact fresh_keep h.sub (fun b hb=>h.out b (.inr (.inl hb))) hg
  ·exact h.out b (.inr (.inr hb))
theorem NdGrw.addK {ow0 ow:List (Nat×Nat)} {tp ts tk:Tag} {n:Nd} (h:NdGrw ow0 ow tp ts tk n) (x:Kd) {g:Nat} (hg:g ∉ (dropTok tk ow).map (·.1)) :
  NdGrw ow0 ((g,(n.kids.map kdD++[kdD x]).length*33)::dropTok tk ow) tp ts (.own g 150 33) { n with kids:=n.kids++[x] }:=by
 have f1:=h.p.fresh h.pk hg
 have f2:=h.s.fresh h.sk hg
 refine ⟨h.p.keep h.pk,h.s.keep h.sk,?_,h.ps,?_,?_,drop_keep h.sub (fun b hb=>h.out b (.inr (.inr hb))),?_⟩
 ·simp only [List.map_append,List.map_cons,List.map_nil];exact Grw.new
 ·intro b hb hc;simp only [tagB,Option.some.injEq] at hc;exact f1 b hb hc
 ·intro b hb hc;simp only [tagB,Option.some.injEq] at hc;exact f2 b hb hc
 ·rintro b (hb | hb | hb)
  ·exact h.out b (.inl hb)
  ·exact h.out b (.inr (.inl hb))
  ·simp only [tagB,Option.some.injEq] at hb;subst hb;exact fresh_keep h.sub (fun b hb=>h.out b (.inr (.inr hb))) hg

theorem rest_le (m:Nat) (s:Bs) (o:Option Bs):gv (countP m) 0 o≤(o.getD []).length:=by
 cases o with
 | none=>simp [gv]
 | some l=>
  simp only [gv,Option.bind_some,Option.getD_some]
  unfold countP
  cases hf:freeP m l with
  | none=>simp
  | some r=>
   obtain ⟨n,l'⟩:=r
   have:=(freeP_rest hf).2.1
   simp only
   split <;> simp <;> omega

theorem aLoose (p w:Int) (s:Bs) (pg:Bool) (S:Sto) (hs:s.length≤3909374676453) :
  ACalls Tryz.prog 114 [frD p w,sD s,bD pg] S (fun e S'=>∃ d,e=.ret d∧d=ndA (looseP pg (widN w) s)∧S'=S):=by
 refine acalls_of prg Tryz.func114 rfl (by kernel_rfl) (congrArg Array.toList Tryz.results114) Tryz.ntmps114 (fun B hB=>fA ?_)
 refine Wv Y0 ?_
 refine aL fun b6 k_b6 o_b6=>?_
 refine Wv Y0 ?_
 refine aL fun b7 k_b7 o_b7=>?_
 refine gG Y0 ?_
 refine AOps.nil ?_;dsimp only [AX.then,AX.inBlock]
 refine AW.seq (AW.region ?_)
 apply AOps.goN prg 2;case run=>(simp only [go_sem,Int.reduceEq,Int.reduceLT,Int.reduceBEq,Int.reduceBNe,Int.reduceNe,Nat.reduceLeDiff,Nat.reduceAdd,Nat.reduceSub,Nat.reduceLT,Nat.reduceEqDiff,Nat.reduceBEq,Int.reduceLE,Int.reduceToNat];rfl)
 simp only [List.drop_succ_cons,List.drop_zero]
 refine aB fun b8 k_b8 o_b8=>?_
 have hs2:s.length≤140737488351232:=by omega
 have hm87:=nes k_b8.1
 have hm86:=nes k_b8.2.1
 have hm76:=nes k_b7.1
 refine Wv Y0 ?_
 refine cX (aTake b8 1 s (some s) _ (RrSt.head (p:=0) (c:=0) ⟨rfl,0,rfl,by omega,rfl⟩) hs2 (by omega) (by omega)) ?_
 rintro d S1 ⟨rfl,hS1⟩
 obtain ⟨p1,c1,rfl,hr1⟩:=hS1.head
 obtain ⟨kind,hkind⟩:∃ k,gv (takeP 1) 0 (some s)=k:=⟨_,rfl⟩
 obtain ⟨o1,ho1⟩:∃ o,gr (takeP 1) (some s)=o:=⟨_,rfl⟩
 rw [hkind]
 rw [ho1] at hr1
 refine Wv Y0 ?_
 refine cX (aCount b8 s.length s o1 _ (RrSt.head hr1) hs2 (by omega)) ?_
 rintro d S1 ⟨rfl,hS1⟩
 obtain ⟨p2,c2,rfl,hr2⟩:=hS1.head
 obtain ⟨many,hmany⟩:∃ k,gv (countP s.length) 0 o1=k:=⟨_,rfl⟩
 obtain ⟨o2,ho2⟩:∃ o,gr (countP s.length) o1=o:=⟨_,rfl⟩
 have hml:many≤s.length:=by
  have h1:=rest_le s.length s o1
  rw [hmany] at h1
  cases o1 with
  | none=>simp at h1;omega
  | some l=>obtain ⟨_,k,_,hk,_⟩:=hr1;simp at h1;omega
 rw [hmany]
 rw [ho2] at hr2
 have hfin:looseP pg (widN w) s=looseN kind pg (widN w) s.length many 0 o2 ⟨[],[],[]⟩:=by unfold looseP;rw [hkind,ho1,hmany,ho2]
 rw [hfin]
 refine Wv Y0 ?_
 refine AW.loopS 16 [11,12,13,14,15] (fun xs S'=>∃ (i:Nat) (o:Option Bs) (p c:Int) (tp ts tk:Tag) (n:Nd) (ow:List (Nat×Nat)),xs=[iD i,.any,.any,.any,.any]∧S'=⟨(b8,131,rrD s p c)::(b7,87,ndT tp ts tk n)::(b6,87,ndT .nil .nil .nil ⟨[],[],[]⟩)::S.bk,ow⟩∧RrIs s o p c∧i≤many∧looseN kind pg (widN w) s.length (many - i) i o n=looseN kind pg (widN w) s.length many 0 o2 ⟨[],[],[]⟩∧NdGrw S.ow ow tp ts tk n∧n.pairs.length≤i∧n.seps.length≤i∧n.kids.length≤i) (fun xs _=>many - nI (xs.getD 0 .any)) [iD 0,.any,.any,.any,.any] _ ?_ (Sto.Sub.refl _) ⟨0,o2,p2,c2,.nil,.nil,.nil,⟨[],[],[]⟩,S.ow,rfl,rfl,hr2,by omega,rfl,NdGrw.nil _,by simp,by simp,by simp⟩ ?_
 ·exact wK
 rintro xs S' ⟨i,o,pp,cc,tp,ts,tk,n,ow,rfl,rfl,hr,hi,hl,hg,hnp,hns,hnk⟩
 refine fR ?_
 clear hS1
 by_cases hlt:i<many
 ·have d1:decide ((i:Int)<many)=true:=decide_eq_true (by omega)
  have f5:IntKind.i64.wrap ((i:Int)+1)=((i+1:Nat):Int):=IntWalk.i64_in _ (by omega)
  have hmi:many - i=(many - (i+1))+1:=by omega
  cases o with
  | none=>
   rw [looseN_none] at hl
   have hc:(cc == 0)=false:=by rw [beq_eq_false_iff_ne];exact hr.1
   rw [← hl]
   refine Wv (Yy d1 (Yy hm87 (Yy hm86 (Yy hm76 (Yy k_b8 (Yy k_b7 hc)))))) ?_
   refine endu (sR (Yy hm87 (Yy hm86 (Yy hm76 (Yy k_b8 k_b7))))) (by rfl) ?_ ⟨rfl,rfl⟩
   exact ⟨((List.Sublist.refl _).cons _ |>.cons _ |>.cons _),hg.sub⟩
  | some l=>
   obtain ⟨rfl,hr'⟩:=hr
   have hr:RrIs s (some l) pp 0:=⟨rfl,hr'⟩
   rw [hmi] at hl
   have hc:((0:Int) == 0)=true:=rfl
   by_cases hk1:kind=1
   ·have d2:((kind:Int) == 1)=true:=by rw [beq_iff_eq];omega
    rw [looseN_pair hk1] at hl
    refine Wv (Yy d1 (Yy hm87 (Yy hm86 (Yy hm76 (Yy k_b8 (Yy k_b7 d2)))))) ?_
    refine cX (aText b8 s.length s (some l) _ (RrSt.head hr) hs2 (by omega)) ?_
    rintro d S1 ⟨rfl,hS1⟩
    obtain ⟨p3,c3,rfl,hr3⟩:=hS1.head
    obtain ⟨key,hkey⟩:∃ k,gv (textP s.length) [] (some l)=k:=⟨_,rfl⟩
    obtain ⟨o3,ho3⟩:∃ k,gr (textP s.length) (some l)=k:=⟨_,rfl⟩
    rw [ho3] at hr3 hl
    rw [hkey] at hl ⊢
    clear hS1
    refine Wv Y0 ?_
    refine cX (aText b8 s.length s o3 _ (RrSt.head hr3) hs2 (by omega)) ?_
    rintro d S1 ⟨rfl,hS1⟩
    obtain ⟨p4,c4,rfl,hr4⟩:=hS1.head
    obtain ⟨val,hval⟩:∃ k,gv (textP s.length) [] o3=k:=⟨_,rfl⟩
    obtain ⟨o4,ho4⟩:∃ k,gr (textP s.length) o3=k:=⟨_,rfl⟩
    rw [ho4] at hr4 hl
    rw [hval] at hl ⊢
    clear hS1
    refine Wv (Yy hm87 (Yy hm86 (Yy hm76 (Yy k_b8 k_b7)))) ?_
    refine AOps.append prg (t:=46) (e:=73) (z:=2) (by_:=32) (tg:=tp) (es:=n.pairs.map prD) (ns:=[prD (key,val)]) (by rfl) (by rfl) (by rfl) (by rfl) (by rfl) (by rfl) (by rfl) (by rfl) (by omega) (by kernel_rfl) (by omega) (fun d hd=>by
     simp only [List.mem_append,List.mem_map,List.mem_singleton] at hd
     rcases hd with ⟨x,_,rfl⟩ | rfl <;> rfl) hg.p.may (by simp) (by rw [List.length_map];simp only [List.length_singleton];omega) ?_
    intro g _ hgo
    have hg2:=hg.addP (key,val) hgo
    refine Wv (Yy hm87 (Yy hm86 (Yy hm76 (Yy k_b8 (Yy k_b7 f5))))) ?_
    refine ⟨[iD (i+1:Nat),.any,.any,.any,.any],_,?_,Sto.Sub.refl _,⟨i+1,o4,p4,c4,_,_,_,_,_,rfl,?_,hr4,by omega,hl,hg2,by simp;omega,by simp;omega,by simp;omega⟩,?_⟩
    ·exact wK
    ·simp only [go_sem,Int.reduceEq,Int.reduceLT,Int.reduceBEq,Int.reduceBNe,Int.reduceNe,Nat.reduceLeDiff,Nat.reduceAdd,Nat.reduceSub,Nat.reduceLT,Nat.reduceEqDiff,Nat.reduceBEq,Int.reduceLE,Int.reduceToNat,List.map_append]
    ·exact mE
   ·have d2:((kind:Int) == 1)=false:=by rw [beq_eq_false_iff_ne];omega
    rw [looseN_kid hk1] at hl
    refine Wv (Yy d1 (Yy hm87 (Yy hm86 (Yy hm76 (Yy k_b8 (Yy k_b7 d2)))))) ?_
    refine AW.cutK 16 [14] (fun xs S'=>∃ (p3 c3:Int) (ts3:Tag) (ow3:List (Nat×Nat)) (n3:Nd),xs=[.any]∧S'=⟨(b8,131,rrD s p3 c3)::(b7,87,ndT tp ts3 tk n3)::(b6,87,ndT .nil .nil .nil ⟨[],[],[]⟩)::S.bk,ow3⟩∧RrIs s (if 0<i then gr (textP s.length) (some l) else some l) p3 c3∧n3={ n with seps:=if 0<i then n.seps++[gv (textP s.length) [] (some l)] else n.seps }∧NdGrw S.ow ow3 tp ts3 tk n3) ?_ ?_
    ·by_cases hi0:0<i
     ·have d3:decide ((i:Int) > 0)=true:=decide_eq_true (by omega)
      rw [d3]
      rw [if_pos hi0,if_pos hi0]
      refine Wv Y0 ?_
      refine cX (aText b8 s.length s (some l) _ (RrSt.head hr) hs2 (by omega)) ?_
      rintro d S1 ⟨rfl,hS1⟩
      obtain ⟨p3,c3,rfl,hr3⟩:=hS1.head
      obtain ⟨key,hkey⟩:∃ k,gv (textP s.length) [] (some l)=k:=⟨_,rfl⟩
      rw [hkey]
      clear hS1
      refine Wv (Yy hm87 (Yy hm86 (Yy hm76 (Yy k_b8 k_b7)))) ?_
      refine AOps.append prg (t:=53) (e:=9) (z:=1) (by_:=16) (tg:=ts) (es:=n.seps.map sD) (ns:=[sD key]) (by rfl) (by rfl) (by rfl) (by rfl) (by rfl) (by rfl) (by rfl) (by rfl) (by omega) (by kernel_rfl) (by omega) (fun d hd=>by
       simp only [List.mem_append,List.mem_map,List.mem_singleton] at hd
       rcases hd with ⟨x,_,rfl⟩ | rfl <;> rfl) hg.s.may (by simp) (by rw [List.length_map];simp only [List.length_singleton];omega) ?_
      intro g _ hgo
      have hg2:=hg.addS key hgo
      refine Wv (Yy hm87 (Yy hm86 (Yy hm76 (Yy k_b8 k_b7)))) ?_
      refine ⟨[.any],_,?_,Sto.Sub.refl _,⟨p3,c3,_,_,_,rfl,?_,hr3,rfl,hg2⟩⟩
      ·exact wK
      ·simp only [go_sem,Int.reduceEq,Int.reduceLT,Int.reduceBEq,Int.reduceBNe,Int.reduceNe,Nat.reduceLeDiff,Nat.reduceAdd,Nat.reduceSub,Nat.reduceLT,Nat.reduceEqDiff,Nat.reduceBEq,Int.reduceLE,Int.reduceToNat,List.map_append]
     ·have d3:decide ((i:Int) > 0)=false:=decide_eq_false (by omega)
      rw [d3]
      rw [if_neg hi0,if_neg hi0]
      refine Wv Y0 ?_
      refine ⟨[.any],_,?_,Sto.Sub.refl _,⟨pp,0,_,_,_,rfl,?_,hr,rfl,hg⟩⟩
      ·exact wK
      ·rfl
    rintro xs S' ⟨p3,c3,ts3,ow3,n3,rfl,rfl,hr3,hn3,hg3⟩
    refine fR ?_
    obtain ⟨o3,ho3⟩:∃ o,(if 0<i then gr (textP s.length) (some l) else some l)=o:=⟨_,rfl⟩
    rw [ho3] at hr3
    simp only [ho3,← hn3] at hl
    have hkids:n3.kids=n.kids:=by rw [hn3]
    have hpairs:n3.pairs=n.pairs:=by rw [hn3]
    have hseps:n3.seps.length≤i+1:=by rw [hn3];show (if 0<i then n.seps++[gv (textP s.length) [] (some l)] else n.seps).length≤i+1;split <;> (try simp) <;> omega
    rw [← hkids] at hl
    clear hr ho2 hS1
    refine Wv Y0 ?_
    refine aL fun b15 k_b15 o_b15=>?_
    have hm15a:=nes k_b15.1
    have hm15b:=nes k_b15.2.1
    have hm15c:=nes k_b15.2.2.1
    refine Wv Y0 ?_
    refine AW.cutK 16 [] (fun xs S'=>∃ (p4 c4:Int),xs=[]∧S'=⟨(b15,150,kdD ⟨if pg then gv (takeP 4) 0 o3 else 0,Dg.zero⟩)::(b8,131,rrD s p4 c4)::(b7,87,ndT tp ts3 tk n3)::(b6,87,ndT .nil .nil .nil ⟨[],[],[]⟩)::S.bk,ow3⟩∧RrIs s (if pg then gr (takeP 4) o3 else o3) p4 c4) ?_ ?_
    ·cases pg with
     | true=>
      simp only [if_true]
      refine Wv Y0 ?_
      refine wg (c:=by exact (aTake b8 4 s o3 _ (RrSt.cons' (RrSt.head hr3) (by simp only [List.map_cons,List.mem_cons,not_or];exact k_b15)) hs2 (by omega) (by omega))) (k:=?_)
      rintro d S1 ⟨rfl,hS1⟩
      obtain ⟨S2,hS2,rfl⟩:=hS1.cons' hm15a
      obtain ⟨p4,c4,rfl,hr4⟩:=hS2.head
      obtain ⟨x,hx⟩:∃ k,gv (takeP 4) 0 o3=k:=⟨_,rfl⟩
      have hx4:x<4294967296:=by
       rw [← hx]
       cases o3 with
       | none=>simp [gv]
       | some l3=>
        by_cases hle:4≤l3.length
        ·rw [gv_some (show takeP 4 l3=some (be (l3.take 4) 0,l3.drop 4) by simp [takeP,hle])]
         have h1:=be_lt (l3.take 4)
         have h2:(l3.take 4).length=4:=by rw [List.length_take];omega
         rw [h2] at h1
         exact h1
        ·rw [gv_none (show takeP 4 l3=none by simp [takeP,hle])];omega
      rw [hx]
      have f1:IntKind.u32.wrap (x:Int)=x:=by rw [IntKind.wrap_u32];omega
      refine Wv (Yy hm15a f1) ?_
      refine ⟨[],_,?_,Sto.Sub.refl _,⟨p4,c4,rfl,rfl,hr4⟩⟩
      exact wK
     | false=>
      simp only [Bool.false_eq_true,if_false]
      refine Wv Y0 ?_
      refine ⟨[],_,?_,Sto.Sub.refl _,⟨p3,c3,rfl,rfl,hr3⟩⟩
      exact wK
    rintro xs S' ⟨p4,c4,rfl,rfl,hr4⟩
    refine fR ?_
    obtain ⟨o4,ho4⟩:∃ o,(if pg then gr (takeP 4) o3 else o3)=o:=⟨_,rfl⟩
    obtain ⟨page,hpage⟩:∃ o,(if pg then gv (takeP 4) 0 o3 else 0)=o:=⟨_,rfl⟩
    rw [ho4] at hr4
    rw [hpage]
    simp only [ho4,hpage] at hl
    refine Wv Y0 ?_
    refine wg (c:=by exact (aDigest b8 w s o4 _ (RrSt.cons' (RrSt.head hr4) (by simp only [List.map_cons,List.mem_cons,not_or];exact k_b15)) hs2)) (k:=?_)
    rintro d S1 ⟨rfl,hS1⟩
    obtain ⟨S2,hS2,rfl⟩:=hS1.cons' hm15a
    obtain ⟨p5,c5,rfl,hr5⟩:=hS2.head
    obtain ⟨o5,ho5⟩:∃ o,gr (digP (widN w)) o4=o:=⟨_,rfl⟩
    obtain ⟨sum,hsum⟩:∃ o,gv (digP (widN w)) Dg.zero o4=o:=⟨_,rfl⟩
    rw [ho5] at hr5
    rw [hsum]
    rw [ho5,hsum] at hl
    clear hS1 hS2
    refine Wv (Yy hm15a (Yy hm15b (Yy hm15c (Yy hm87 (Yy hm86 (Yy hm76 (Yy k_b8 (Yy k_b7 k_b15)))))))) ?_
    refine AOps.append prg (t:=85) (e:=150) (z:=33) (by_:=36) (tg:=tk) (es:=n3.kids.map kdD) (ns:=[kdD ⟨page,sum⟩]) (by rfl) (by rfl) (by rfl) (by rfl) (by rfl) (by rfl) (by rfl) (by rfl) (by omega) (by kernel_rfl) (by omega) (fun d hd=>by
     simp only [List.mem_append,List.mem_map,List.mem_singleton] at hd
     rcases hd with ⟨x,_,rfl⟩ | rfl <;> rfl) hg3.k.may (by simp) (by rw [List.length_map,hkids];simp only [List.length_singleton];omega) ?_
    intro g _ hgo
    have hg4:=hg3.addK ⟨page,sum⟩ hgo
    refine Wv (Yy hm15a (Yy hm15b (Yy hm15c (Yy hm87 (Yy hm86 (Yy hm76 (Yy k_b8 (Yy k_b7 (Yy k_b15 f5))))))))) ?_
    refine ⟨[iD (i+1:Nat),.any,.any,.any,.any],⟨(b8,131,rrD s p5 c5)::(b7,87,ndT tp ts3 (.own g 150 33) { n3 with kids:=n3.kids++[⟨page,sum⟩] })::(b6,87,ndT .nil .nil .nil ⟨[],[],[]⟩)::S.bk,_⟩,?_,⟨(?_:List.Sublist _ _),List.Sublist.refl _⟩,⟨i+1,o5,p5,c5,_,_,_,_,_,rfl,rfl,hr5,by omega,?_,hg4,by rw [hpairs];omega,hseps,by rw [hkids];simp;omega⟩,?_⟩
    ·exact wK
    ·simp only [go_sem,Int.reduceEq,Int.reduceLT,Int.reduceBEq,Int.reduceBNe,Int.reduceNe,Nat.reduceLeDiff,Nat.reduceAdd,Nat.reduceSub,Nat.reduceLT,Nat.reduceEqDiff,Nat.reduceBEq,Int.reduceLE,Int.reduceToNat,List.map_append];exact (List.Sublist.refl _).cons _
    ·rw [← hl,hn3]
    ·exact mE
 ·have d1:decide ((i:Int)<many)=false:=decide_eq_false (by omega)
  have e0:many - i=0:=by omega
  rw [e0] at hl
  have hl':n=looseN kind pg (widN w) s.length many 0 o2 ⟨[],[],[]⟩:=hl
  rw [← hl']
  refine Wv (Yy d1 (Yy hm87 (Yy hm86 (Yy hm76 (Yy k_b8 k_b7))))) ?_
  refine endu (sR (Yy hm87 (Yy hm86 (Yy hm76 (Yy k_b8 k_b7))))) (by rfl) ?_ ⟨rfl,rfl⟩
  exact ⟨((List.Sublist.refl _).cons _ |>.cons _ |>.cons _),hg.sub⟩

end Go.Proofs.YtcaggadjkccbiaaGreat