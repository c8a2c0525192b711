/- The digest of a node: by the program. -/
import Derived.Test.YtcaggadjkccbiaaGreatZ41
import Derived.Test.YtcaggadjkccbiaaGreatZ28
namespace Go.Proofs.YtcaggadjkccbiaaGreat
set_option maxHeartbeats 1000000
set_option maxRecDepth 100000
set_option linter.unusedVariables false
set_option linter.unusedSimpArgs false
open Go Go.RowKit

def tagN (n:Nd):Bs:=if leafB n=true then [108,101,97,102] else [98,114,97,110,99,104]
def sumN (p wd:Int) (n:Nd):Dg×Int:=if mayE p wd n=0 then digS wd (tagN n) [plainS p wd n] else (Dg.zero,mayE p wd n)

theorem tagN_ok (n:Nd):tagE (tagN n)=0∧(tagN n).length≤6:=by unfold tagN;split <;> exact ⟨rfl,by decide⟩
theorem textT1 (tag s:Bs):(textT tag [s]).length=tag.length+s.length+5:=by
 simp [textT,be4L];omega
theorem plainS_le {p wd:Int} {n:Nd} (h:mayE p wd n=0):(plainS p wd n).length≤8192:=by
 obtain ⟨hc,hs⟩:=mayE_ok h
 have hp:=(rightB_iff.1 (checkE_ok hc).1).1
 have h1:((p.toNat:Nat):Int)=p:=by omega
 have h2:((wd.toNat:Nat):Int)=wd:=by have:=(rightB_iff.1 (checkE_ok hc).1).2;omega
 have hl:=formB_len (P:=p.toNat) (pages:=false) (wd:=wd.toNat) (n:=n) (by rw [h1,h2];exact hc)
 unfold plainS
 rw [if_pos h]
 omega
theorem SsAt1 (w:World) (s:Bs) (g:Nat) (hg:g=w.heap.size):SsAt (w.alloc (.cells #[.string ⟨s.toArray⟩] 9)) (some ⟨g,0,none⟩) [s]:=by
 subst hg
 intro i p h
 obtain ⟨rfl,rfl⟩:i=0∧p=s:=by
  cases i
  ·simp at h;exact ⟨rfl,h.symm⟩
  ·simp at h
 exact ⟨_,_,rfl,by simp,(Blk.new w 9 #[.string ⟨p.toArray⟩]).cell 0⟩

theorem nsum_any (p wd:Int) (pa sa ka:Option Addr) (pc sc kc:Nat) (n:Nd) (w:World) (h:NdAt w pa sa ka n) (ho:NdOk n) :
  Calls Tryz.prog 90 #[.agg #[.int .i64 p,.int .i64 wd],.agg #[.slice pa n.pairs.length pc,.slice sa n.seps.length sc,.slice ka n.kids.length kc]] w (Rets (.tuple #[.agg (sumN p wd n).1.c,.int .i64 (sumN p wd n).2]) w):=by
 obtain ⟨c,hc⟩:∃ c,mayE p wd n=c:=⟨_,rfl⟩
 by_cases h0:c=0
 ·subst h0
  have hs:(plainS p wd n).length≤8192:=plainS_le hc
  obtain ⟨ht1,ht2⟩:=tagN_ok n
  have hT:(textT (tagN n) [plainS p wd n]).length≤140737488355000:=by rw [textT1];omega
  rw [show sumN p wd n=digS wd (tagN n) [plainS p wd n] by unfold sumN;rw [if_pos hc]]
  have H:=Lib.hid h;have HO:=Lib.hid ho
  have HC:=Lib.hid hc
  cases hl:leafB n
  ·have hl2:decide (n.seps.length=0∧n.kids.length=0)=false:=hl
   have ht:tagN n=[98,114,97,110,99,104]:=by unfold tagN;rw [hl];rfl
   rw [ht] at hT ⊢
   have HT:=Lib.hid hT
   obtain ⟨⟨d,e⟩,hd⟩:∃ x,digS wd [98,114,97,110,99,104] [plainS p wd n]=x:=⟨_,rfl⟩
   rw [hd]
   have HD:=Lib.hid hd
   clear hd
   clear h ho hc hs ht1 ht2 hT hl ht
   go_enter Tryz.func90,Tryz.ntmps90
   go_wp2_with fail
   refine (Plain_any p wd _ _ _ _ _ _ n _ (H.out.kp0 ((((Kp.refl [] _).alloc _).alloc _).alloc _)) HO.out).mono ?_
   rintro e w1 ⟨rfl,bs,m,rfl⟩
   rw [HC.out]
   go_wp2_with fail
   refine (isLeaf_any _ _ _ _ _ _ _ _ _ _).mono ?_
   rintro e w1 ⟨rfl,bs2,m2,rfl⟩
   rw [hl2]
   go_wp2_with fail
   refine (dig_any wd [98,114,97,110,99,104] [plainS p wd n] _ _ _ (SsAt1 _ _ _ (by simp)) HT.out (by simp)).mono ?_
   rintro e w2 ⟨rfl,bs3,m3,rfl⟩
   rw [HD.out]
   go_wp2_with fail
   refine dg_ret2 rfl rfl rfl (d:=d) ?_ rfl ?_
   ·simp [go_sem]
    rw [if_pos (by omega),if_pos (by omega)]
   ·exact ⟨rfl,by (try simp only [alloc_ext,drew_ext,drewN_ext,ext_ext]);exact ⟨_,_,rfl⟩⟩
  ·have hl2:decide (n.seps.length=0∧n.kids.length=0)=true:=hl
   have ht:tagN n=[108,101,97,102]:=by unfold tagN;rw [hl];rfl
   rw [ht] at hT ⊢
   have HT:=Lib.hid hT
   obtain ⟨⟨d,e⟩,hd⟩:∃ x,digS wd [108,101,97,102] [plainS p wd n]=x:=⟨_,rfl⟩
   rw [hd]
   have HD:=Lib.hid hd
   clear hd
   clear h ho hc hs ht1 ht2 hT hl ht
   go_enter Tryz.func90,Tryz.ntmps90
   go_wp2_with fail
   refine (Plain_any p wd _ _ _ _ _ _ n _ (H.out.kp0 ((((Kp.refl [] _).alloc _).alloc _).alloc _)) HO.out).mono ?_
   rintro e w1 ⟨rfl,bs,m,rfl⟩
   rw [HC.out]
   go_wp2_with fail
   refine (isLeaf_any _ _ _ _ _ _ _ _ _ _).mono ?_
   rintro e w1 ⟨rfl,bs2,m2,rfl⟩
   rw [hl2]
   go_wp2_with fail
   refine (dig_any wd [108,101,97,102] [plainS p wd n] _ _ _ (SsAt1 _ _ _ (by simp)) HT.out (by simp)).mono ?_
   rintro e w2 ⟨rfl,bs3,m3,rfl⟩
   rw [HD.out]
   go_wp2_with fail
   refine dg_ret2 rfl rfl rfl (d:=d) ?_ rfl ?_
   ·simp [go_sem]
    rw [if_pos (by omega),if_pos (by omega)]
   ·exact ⟨rfl,by (try simp only [alloc_ext,drew_ext,drewN_ext,ext_ext]);exact ⟨_,_,rfl⟩⟩
 ·rw [show sumN p wd n=(Dg.zero,c) by unfold sumN;rw [hc,if_neg h0]]
  have hb:(c != 0)=true:=by simpa using h0
  have H:=Lib.hid h;have HO:=Lib.hid ho
  have HC:=Lib.hid hc
  clear h ho hc h0
  go_enter Tryz.func90,Tryz.ntmps90
  go_wp2_with fail
  refine (Plain_any p wd _ _ _ _ _ _ n _ (H.out.kp0 ((((Kp.refl [] _).alloc _).alloc _).alloc _)) HO.out).mono ?_
  rintro e w1 ⟨rfl,bs,m,rfl⟩
  rw [HC.out]
  go_wp2_with fail
  refine dg_ret2 rfl rfl rfl (d:=Dg.zero) ?_ rfl ?_
  ·simp [go_sem]
  ·exact ⟨rfl,by (try simp only [alloc_ext,drew_ext,drewN_ext,ext_ext]);exact ⟨_,_,rfl⟩⟩

end Go.Proofs.YtcaggadjkccbiaaGreat