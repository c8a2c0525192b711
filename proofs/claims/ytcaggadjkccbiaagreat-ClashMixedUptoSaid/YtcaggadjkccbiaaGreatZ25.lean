/- Pack and Plain. -/
import Derived.Test.YtcaggadjkccbiaaGreatZ24
namespace Go.Proofs.YtcaggadjkccbiaaGreat
set_option maxHeartbeats 1000000
set_option maxRecDepth 100000
set_option linter.unusedVariables false
set_option linter.unusedSimpArgs false
open Go Go.RowKit

theorem shaped_kids {P:Nat} {wd:Int} {n:Nd} (h:shapedB P wd n=true) (hl:leafB n=false):n.seps.length+1=n.kids.length:=by
 unfold shapedB at h
 rw [if_neg (by rw [hl];decide)] at h
 simp only [Bool.and_eq_true,decide_eq_true_eq] at h
 exact h.1.1.2

theorem mayE_ok {p wd:Int} {n:Nd} (h:mayE p wd n=0):checkE p wd n=0∧sizeN wd.toNat n≤p.toNat - 32:=by
 unfold mayE at h
 split at h
 ·rename_i hc
  split at h
  ·cases h
  ·exact ⟨hc,by omega⟩
 ·rename_i hc;exact absurd h hc

theorem form_any (P wd:Nat) (pa sa ka:Option Addr) (pc sc kc:Nat) (pages:Bool) (n:Nd) (w:World) (hm:mayE P wd n=0) (h:NdAt w pa sa ka n) (ho:NdOk n) :
  Calls Tryz.prog 153 #[.agg #[.int .i64 P,.int .i64 wd],.agg #[.slice pa n.pairs.length pc,.slice sa n.seps.length sc,.slice ka n.kids.length kc],.bool pages] w (Rets (.string ⟨(formB pages wd n).toArray⟩) w):=by
 obtain ⟨hc,hsz⟩:=mayE_ok hm
 obtain ⟨hr,hs⟩:=checkE_ok hc
 have hr':=rightB_iff.1 hr
 have h1:sizeN wd n≤100000:=by
  have:((wd:Int)).toNat=wd:=rfl
  rw [this] at hsz
  have:((P:Int)).toNat=P:=rfl
  omega
 cases hl:leafB n
 ·exact (form_branch P wd pa sa ka pc sc kc pages n w (by omega) hl h ho (shaped_kids hs hl) h1).mono fun e w' ⟨h1,h2⟩=>⟨h1,h2.to_ext⟩
 ·exact (form_leaf P wd pa sa ka pc sc kc pages n w hl h ho.np h1).mono fun e w' ⟨h1,h2⟩=>⟨h1,h2.to_ext⟩

def plainS (p wd:Int) (n:Nd):Bs:=if mayE p wd n=0 then formB false wd.toNat n else []

theorem Plain_any (p wd:Int) (pa sa ka:Option Addr) (pc sc kc:Nat) (n:Nd) (w:World) (h:NdAt w pa sa ka n) (ho:NdOk n) :
  Calls Tryz.prog 128 #[.agg #[.int .i64 p,.int .i64 wd],.agg #[.slice pa n.pairs.length pc,.slice sa n.seps.length sc,.slice ka n.kids.length kc]] w (Rets (.tuple #[.string ⟨(plainS p wd n).toArray⟩,.int .i64 (mayE p wd n)]) w):=by
 obtain ⟨c,hc⟩:∃ c,mayE p wd n=c:=⟨_,rfl⟩
 have HC:=Lib.hid hc
 by_cases h0:c=0
 ·subst h0
  have hr:=rightB_iff.1 (checkE_ok (mayE_ok hc).1).1
  obtain ⟨d,rfl⟩:=Int.eq_ofNat_of_zero_le (show 0≤wd by omega)
  obtain ⟨q,rfl⟩:=Int.eq_ofNat_of_zero_le (show 0≤p by omega)
  have hs:plainS q d n=formB false d n:=by unfold plainS;rw [if_pos hc];rfl
  have HS:=Lib.hid hs
  have H:=Lib.hid h;have HO:=Lib.hid ho;clear h ho hr hc hs
  go_enter Tryz.func128,Tryz.ntmps128
  go_wp2_with fail
  refine (may_any _ _ _ _ _ _ _ _ n _ (H.out.kp0 (((Kp.refl [] _).alloc _).alloc _)) HO.out).mono ?_
  rintro e w' ⟨rfl,bs,m,rfl⟩
  rw [HC.out]
  go_wp2_with fail
  refine (form_any q d _ _ _ _ _ _ false n _ HC.out (H.out.kp0 ((((Kp.refl [] _).alloc _).alloc _).ext _ _)) HO.out).mono ?_
  rintro e w' ⟨rfl,bs1,m1,rfl⟩
  go_wp2_with fail
  go_ret2
  rw [HC.out,HS.out]
  exact ⟨rfl,by (try simp only [alloc_ext,drew_ext,drewN_ext,ext_ext]);exact ⟨_,_,rfl⟩⟩
 ·have hb:(c != 0)=true:=by simpa using h0
  have hs:plainS p wd n=[]:=by unfold plainS;rw [hc,if_neg h0]
  have HS:=Lib.hid hs
  have H:=Lib.hid h;have HO:=Lib.hid ho;clear h ho hc h0 hs
  go_enter Tryz.func128,Tryz.ntmps128
  go_wp2_with fail
  refine (may_any _ _ _ _ _ _ _ _ n _ (H.out.kp0 (((Kp.refl [] _).alloc _).alloc _)) HO.out).mono ?_
  rintro e w' ⟨rfl,bs,m,rfl⟩
  rw [HC.out]
  go_wp2_with fail
  go_ret2
  rw [HC.out,HS.out]
  exact ⟨rfl,by (try simp only [alloc_ext,drew_ext,drewN_ext,ext_ext]);exact ⟨_,_,rfl⟩⟩

end Go.Proofs.YtcaggadjkccbiaaGreat