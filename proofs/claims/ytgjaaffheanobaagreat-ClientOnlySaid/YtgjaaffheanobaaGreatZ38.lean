/- A form is read. -/
import Derived.Test.YtgjaaffheanobaaGreatZ34
import Derived.Test.YtgjaaffheanobaaGreatZ35
import Derived.Test.YtgjaaffheanobaaGreatZ37
namespace Go.Proofs.YtgjaaffheanobaaGreat
set_option linter.unusedVariables false
set_option linter.unusedSimpArgs false
open Go Go.RowKit

structure Own3 (w:World) (lo:Nat) (pa sa ka:Option Addr) (pc sc kc:Nat) (n:Nd):Prop where
 ps:Own w 129 2 pa n.pairs.length pc (n.pairs.flatMap csP)
 ss:Own w 9 1 sa n.seps.length sc (n.seps.flatMap csS)
 ks:Own w 213 33 ka n.kids.length kc (n.kids.flatMap csK)
 lo:∀ g∈ab pa++ab sa++ab ka,lo≤g
 d1:∀ g∈ab pa,g ∉ ab sa∧g ∉ ab ka
 d2:∀ g∈ab sa,g ∉ ab ka

theorem Own.ps {w:World} {a:Option Addr} {c:Nat} {l:List Pr} (h:Own w 129 2 a l.length c (l.flatMap csP)):PsAt w a l:=by
 intro i p hp
 have hi:i<l.length:=by
  rcases Nat.lt_or_ge i l.length with h1 | h1
  ·exact h1
  ·simp [List.getElem?_eq_none h1] at hp
 rcases h.block.2 with ⟨_,h1,_⟩ | ⟨g,cur,rfl,hb,_⟩
 ·omega
 ·have key:∀ (l:List Pr) (i:Nat) (p:Pr),l[i]?=some p→(l.flatMap csP)[i*2]?=some (.string ⟨p.1.toArray⟩)∧(l.flatMap csP)[i*2+1]?=some (.string ⟨p.2.toArray⟩):=by
   intro l
   induction l with
   | nil=>intro i p h;simp at h
   | cons x t ih=>
    intro i p h
    cases i with
    | zero=>simp at h;subst h;simp [csP]
    | succ i=>
     have:=ih i p (by simpa using h)
     simp only [List.flatMap_cons]
     rw [List.getElem?_append_right (by simp [csP];omega),List.getElem?_append_right (by simp [csP];omega)]
     simpa [csP,Nat.add_mul] using this
  obtain ⟨k1,k2⟩:=key l i p hp
  have hc:=h.cells rfl
  exact ⟨g,0,rfl,hb.lt,by simpa [Addr.add_lit] using hc _ _ k1,by simpa [Addr.add_lit] using hc _ _ k2⟩
theorem Own.ss {w:World} {a:Option Addr} {c:Nat} {l:List Bs} (h:Own w 9 1 a l.length c (l.map fun t=>.string ⟨t.toArray⟩)):SsAt w a l:=by
 intro i p hp
 have hi:i<l.length:=by
  rcases Nat.lt_or_ge i l.length with h1 | h1
  ·exact h1
  ·simp [List.getElem?_eq_none h1] at hp
 rcases h.block.2 with ⟨_,h1,_⟩ | ⟨g,cur,rfl,hb,_⟩
 ·omega
 ·have hc:=h.cells rfl i (.string ⟨p.toArray⟩) (by simp [hp])
  exact ⟨g,0,rfl,hb.lt,by simpa [Addr.add_lit] using hc⟩
theorem Own.ks {w:World} {a:Option Addr} {c:Nat} {l:List Kd} (h:Own w 213 33 a l.length c (l.flatMap csK)):KsAt w a l:=by
 intro i p hp
 have hi:i<l.length:=by
  rcases Nat.lt_or_ge i l.length with h1 | h1
  ·exact h1
  ·simp [List.getElem?_eq_none h1] at hp
 rcases h.block.2 with ⟨_,h1,_⟩ | ⟨g,cur,rfl,hb,hnc,_,hsz,htk⟩
 ·omega
 ·have key:∀ (l:List Kd) (i:Nat) (p:Kd),l[i]?=some p→((l.flatMap csK).drop (i*33)).take 33=p.c.toList:=by
   intro l
   induction l with
   | nil=>intro i p h;simp at h
   | cons x t ih=>
    intro i p h
    have hx:x.c.toList.length=33:=by simp
    cases i with
    | zero=>simp at h;subst h;simp only [List.flatMap_cons,csK,Nat.zero_mul,List.drop_zero];rw [List.take_append_of_le_length (by omega),List.take_of_length_le (by omega)]
    | succ i=>
     have:=ih i p (by simpa using h)
     simp only [List.flatMap_cons,csK]
     rw [show (i+1)*33=x.c.toList.length+i*33 by omega,List.drop_append]
     rw [List.drop_of_length_le (by omega)]
     simpa [csK] using this
  refine ⟨g,0,rfl,hb.lt,?_⟩
  have hlen:i*33+33≤l.length*33:=by omega
  have hle:l.length*33≤cur.size:=by rw [hsz];exact Nat.mul_le_mul_right _ hnc
  unfold Blk at hb
  unfold rowAt?
  simp only [hb,Option.isSome_none,Bool.false_eq_true,if_false,Nat.zero_add]
  rw [if_pos (by omega)]
  congr 1
  apply Array.ext'
  have h1:=key l i p hp
  rw [← htk] at h1
  rw [← h1]
  simp only [Array.toList_extract,List.extract_eq_take_drop,List.drop_take,List.take_take]
  congr 1
  omega

theorem Own3.at {w:World} {lo:Nat} {pa sa ka:Option Addr} {pc sc kc:Nat} {n:Nd} (h:Own3 w lo pa sa ka pc sc kc n):NdAt w pa sa ka n:=
 ⟨Own.ps h.ps,Own.ss (by rw [← csS_map];exact h.ss),Own.ks h.ks⟩
theorem Own3.kp {S:List Nat} {w w':World} {lo:Nat} {pa sa ka:Option Addr} {pc sc kc:Nat} {n:Nd} (h:Own3 w lo pa sa ka pc sc kc n) (k:Kp S w w') (hs:∀ g∈ab pa++ab sa++ab ka,g ∉ S):Own3 w' lo pa sa ka pc sc kc n:=
 ⟨h.ps.kp k (fun g hg=>hs g (by simp [hg])),h.ss.kp k (fun g hg=>hs g (by simp [hg])),h.ks.kp k (fun g hg=>hs g (by simp [hg])),h.lo,h.d1,h.d2⟩


end Go.Proofs.YtgjaaffheanobaaGreat