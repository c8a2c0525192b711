/- The reader's methods, each with what it hands back and where it leaves the reader. -/
import Derived.Test.YtcaggadjkccbiaaGreatZ0
namespace Go.Proofs.YtcaggadjkccbiaaGreat
set_option linter.unusedVariables false
set_option linter.unusedSimpArgs false
open Go Go.RowKit

set_option maxHeartbeats 400000 in
theorem rd_dead (b:Nat) (s:Bs) (p f:Int) (w:World) (h:RdAt w b s p f) :
  Calls Tryz.prog 122 #[.pointer (some ⟨b,0,none⟩)] w fun e w'=>e=.returned (.bool (f != 0))∧w=w':=by
 obtain ⟨c0,c1,c2,c3⟩:=h.cells
 clear h
 go_enter Tryz.func122,Tryz.ntmps122
 go_wp2
 go_ret
 exact ⟨rfl,rfl⟩

theorem rd_dead0 {b:Nat} {s:Bs} {p:Int} {w:World} (h:RdAt w b s p 0) :
  Calls Tryz.prog 122 #[.pointer (some ⟨b,0,none⟩)] w fun e w'=>e=.returned (.bool false)∧w=w':=rd_dead b s p 0 w h

theorem rd_dead1 {b:Nat} {s:Bs} {p f:Int} {w:World} (h:RdAt w b s p f) (hf:f≠0) :
  Calls Tryz.prog 122 #[.pointer (some ⟨b,0,none⟩)] w fun e w'=>e=.returned (.bool true)∧w=w':=by
 have:=rd_dead b s p f w h
 rwa [show (f != 0)=true by simpa using hf] at this

set_option maxHeartbeats 400000 in
theorem rd_left (b:Nat) (s:Bs) (p:Nat) (f:Int) (w:World) (h:RdAt w b s p f) (hs:s.length≤140737488351232) (h1:p≤s.length) :
  Calls Tryz.prog 124 #[.pointer (some ⟨b,0,none⟩)] w fun e w'=>e=.returned (.int .i64 ((s.length:Int) - p))∧∃ n,w'=w.drewN n:=by
 obtain ⟨c0,c1,c2,c3⟩:=h.cells
 clear h
 go_enter Tryz.func124,Tryz.ntmps124
 go_wp2
 go_quiet (fail)
 go_wp2
 go_ret
 exact ⟨rfl,_,rfl⟩

set_option maxHeartbeats 400000 in
theorem rd_fail (b:Nat) (s:Bs) (p f c:Int) (q:Int) (w:World) (h:RdAt w b s p f) :
  Calls Tryz.prog 125 #[.pointer (some ⟨b,0,none⟩),.int .i64 c,.int .i64 q] w fun e w'=>e=.returned (.tuple #[])∧Kp [b] w w'∧RdAt w' b s q c:=by
 obtain ⟨c0,c1,c2,c3⟩:=h.cells
 have f2:=Blk.frozen h 2
 have f3:=Blk.frozen h 3
 have H:=Lib.hid h
 clear h
 go_enter Tryz.func125,Tryz.ntmps125
 go_wp2
 go_end0
 exact ⟨rfl,((Kp.refl _ _).setCell _ (.inr (by simp))).setCell _ (.inr (by simp)),(H.out.setFault c).setAt q⟩

theorem RdAt.bad {w:World} {b:Nat} {s:Bs} {p:Nat} {f:Int} (h:RdAt w b s p f) (hf:f≠0) (hp:p≤s.length):RdBad w b s:=⟨p,f,hf,hp,h⟩

def FreePost (w:World) (b:Nat) (s:Bs) (r:Option (Nat×Bs)) (e:Ending) (w':World):Prop:=
 match r with
 | some (n,l')=>e=.returned (.int .u64 n)∧Kp [b] w w'∧RdOk w' b s l'
 | none=>e=.returned (.int .u64 0)∧Kp [b] w w'∧RdBad w' b s

theorem drop_cons {s:Bs} {q:Nat} (h:q<s.length):s.drop q=s[q]::s.drop (q+1):=(List.getElem_cons_drop h).symm

theorem free_none {l t:Bs} {m n' k':Nat} {c:UInt8} (HV:vrd l 0 0=vrd (c::t) k' n') (ht:(k'=63∧1<c.toNat)∨(0<k'∧c.toNat=0)):freeP m l=none:=by
 unfold freeP;rw [HV];simp [vrd,ht]
theorem free_some {l t:Bs} {m n' k':Nat} {c:UInt8} (HV:vrd l 0 0=vrd (c::t) k' n') (ht:¬ ((k'=63∧1<c.toNat)∨(0<k'∧c.toNat=0))) (hc:c.toNat<128) :
  freeP m l=if n'+c.toNat % 128*2 ^ k'≤m then some (n'+c.toNat % 128*2 ^ k',t) else none:=by
 unfold freeP;rw [HV];simp only [vrd,ht,if_false,hc,if_true,Nat.mod_eq_of_lt hc]
theorem free_step {l t:Bs} {n' k':Nat} {c:UInt8} (HV:vrd l 0 0=vrd (c::t) k' n') (ht:¬ ((k'=63∧1<c.toNat)∨(0<k'∧c.toNat=0))) (hc:128≤c.toNat) :
  vrd l 0 0=vrd t (k'+7) (n'+c.toNat % 128*2 ^ k'):=by
 rw [HV];simp only [vrd,ht,if_false,show ¬ c.toNat<128 from by omega]

theorem byte_at (s:Bs) (q:Nat) (h:q<s.length):∃ c:Nat,((⟨s.toArray⟩:ByteArray)[q]'h).toNat=c∧s[q].toNat=c∧c<256:=
 ⟨s[q].toNat,rfl,rfl,s[q].toNat_lt⟩


set_option maxHeartbeats 2000000 in
set_option maxRecDepth 100000 in
theorem rd_free (b:Nat) (s l:Bs) (m:Nat) (w:World) (h:RdOk w b s l) (hs:s.length≤140737488351232) (hm:m<18446744073709551616) :
  Calls Tryz.prog 123 #[.pointer (some ⟨b,0,none⟩),.int .u64 m] w (FreePost w b s (freeP m l)):=by
 obtain ⟨p,hp,hl,h⟩:=h
 obtain ⟨c0,c1,c2,c3⟩:=h.cells
 have f2:=Blk.frozen h 2
 have f3:=Blk.frozen h 3
 have H:=Lib.hid h;clear h
 have HL:=Lib.hid hl;clear hl
 have hp':p≤s.length:=by omega
 have HP:=Lib.hid hp;clear hp
 go_enter Tryz.func123,Tryz.ntmps123
 go_wp2_with (go_at_call 122;refine (rd_dead0 H.out).mono ?_;rintro e w' ⟨rfl,rfl⟩)
 go_loop [5,6,7] (fun n q k=>∃ n' q' k':Nat,n=.int .u64 n'∧q=.int .i64 q'∧k=.int .u64 k'∧k'≤63∧k' % 7=0∧Hid (n'<2 ^ k')∧p≤q'∧q'≤s.length∧Hid (vrd l 0 0=vrd (s.drop q') k' n')) (fun _ q _=>s.length - (intOf q).toNat)
 case atStart=>exact ⟨0,p,0,rfl,rfl,rfl,by omega,by omega,by show 0<2 ^ 0;omega,by omega,hp',by show _=_;rw [HL.out]⟩
 case round=>
  obtain ⟨n',q',k',rfl,rfl,rfl,hk,h7,HN,hq,hqs,HV⟩:=hrel
  by_cases he:q'=s.length
  ·subst he
   go_wp2_with (go_at_call 125;refine (rd_fail _ _ _ _ _ _ _ H.out).mono ?_;rintro e w' ⟨rfl,hk1,hr1⟩)
   go_ret
   have:freeP m l=none:=by unfold freeP;rw [HV.out];simp [vrd]
   rw [this]
   exact ⟨rfl,hk1,hr1.bad (by decide) hp'⟩
  ·have hlt:q'<s.length:=by omega
   have hd:=Lib.hid (drop_cons hlt)
   obtain ⟨c,hcell,hsc,hc⟩:=byte_at s q' hlt
   have HS:=Lib.hid hsc;clear hsc
   by_cases ht:(k'=63∧1<c)∨(0<k'∧c=0)
   ·have HO:=Lib.hid (free_none (m:=m) (HV.out.trans (by rw [hd.out])) (by rw [HS.out];exact ht))
    rcases ht with ⟨rfl,ht⟩ | ⟨hk0,rfl⟩
    ·go_wp2_with (go_at_call 125;refine (rd_fail _ _ _ _ _ _ _ H.out).mono ?_;rintro e w' ⟨rfl,hk1,hr1⟩)
     go_ret
     rw [HO.out];exact ⟨rfl,hk1,hr1.bad (by decide) hp'⟩
    ·have hk63:k'=63∨k'<63:=by omega
     rcases hk63 with rfl | hk63
     all_goals
      go_wp2_with (go_at_call 125;refine (rd_fail _ _ _ _ _ _ _ H.out).mono ?_;rintro e w' ⟨rfl,hk1,hr1⟩)
      go_ret
      rw [HO.out];exact ⟨rfl,hk1,hr1.bad (by decide) hp'⟩
   ·have HG:=Lib.hid (gather n' c k' HN.out h7 hk hc (by omega))
    have HT:=Lib.hid ht
    obtain ⟨z,hz⟩:∃ z,z=n'+c % 128*2 ^ k':=⟨_,rfl⟩
    have HZ:=Lib.hid hz;clear hz
    have hz64:z<18446744073709551616:=by rw [HZ.out];exact HG.out.2
    have hor:=HG.out.1
    rw [← HZ.out] at hor
    by_cases hlo:c<128
    ·have HF:=Lib.hid (free_some (m:=m) (HV.out.trans (by rw [hd.out])) (by rw [HS.out];exact ht) (by rw [HS.out];exact hlo))
     have h3:(((k':Int) == 63)=true∧c≤1∧0<c∧0<k')∨(((k':Int) == 63)=false∧0<k'∧0<c)∨(((k':Int) == 63)=false∧¬ 0<k'):=by simp only [beq_iff_eq,beq_eq_false_iff_ne];omega
     by_cases hzm:z≤m
     ·rw [HS.out,← HZ.out,if_pos hzm] at HF
      have hzm':¬ m<z:=by omega
      rcases h3 with ⟨h4,h5,h6,h7'⟩ | ⟨h4,h5,h6⟩ | ⟨h4,h5⟩
      all_goals
       try (have h8:((c:Int) == 0)=false:=by simp only [beq_eq_false_iff_ne];omega)
       go_wp2_with fail
       go_ret
       rw [HF.out]
       exact ⟨rfl,(Kp.refl _ _).setCell _ (.inr (by simp)),q'+1,by simp;omega,rfl,H.out.setAt _⟩
     ·rw [HS.out,← HZ.out,if_neg hzm] at HF
      have hzm':m<z:=by omega
      rcases h3 with ⟨h4,h5,h6,h7'⟩ | ⟨h4,h5,h6⟩ | ⟨h4,h5⟩
      all_goals
       try (have h8:((c:Int) == 0)=false:=by simp only [beq_eq_false_iff_ne];omega)
       go_wp2_with (go_at_call 125;refine (rd_fail _ _ _ _ _ _ _ H.out).mono ?_;rintro e w' ⟨rfl,hk1,hr1⟩)
       go_ret
       rw [HF.out];exact ⟨rfl,hk1,hr1.bad (by decide) hp'⟩
    ·have h3:(((k':Int) == 63)=false∧k'<63∧0<k'∧0<c)∨(((k':Int) == 63)=false∧k'<63∧¬ 0<k'):=by simp only [beq_iff_eq,beq_eq_false_iff_ne];omega
     have HF:=Lib.hid (free_step (HV.out.trans (by rw [hd.out])) (by rw [HS.out];exact ht) (by rw [HS.out];omega))
     have HX:=Lib.hid (gather_lt n' c k' HN.out)
     rcases h3 with ⟨h4',h4,h5,h6⟩ | ⟨h4',h4,h5⟩
     all_goals
      go_wp2_with fail
      go_round
      case rel=>exact ⟨z,q'+1,k'+7,rfl,by go_num,by go_num,by omega,by omega,by rw [HZ.out];exact HX.out,by omega,by omega,by show _=_;rw [HF.out,HS.out,HZ.out]⟩
      case measure=>simp [intOf];omega

def StrPost (w:World) (b:Nat) (s:Bs) (r:Option (Bs×Bs)) (e:Ending) (w':World):Prop:=
 match r with
 | some (t,l')=>e=.returned (.string ⟨t.toArray⟩)∧Kp [b] w w'∧RdOk w' b s l'
 | none=>e=.returned (.string ⟨#[]⟩)∧Kp [b] w w'∧RdBad w' b s

theorem ext_drop (s:Bs) (p n:Nat):ByteArray.extract ⟨s.toArray⟩ p (p+n)=⟨((s.drop p).take n).toArray⟩:=by
 apply ByteArray.ext
 rw [ByteArray.data_extract]
 apply Array.ext'
 simp [List.extract_eq_take_drop]

set_option maxHeartbeats 400000 in
theorem rd_raw_bad (b:Nat) (s:Bs) (n:Int) (w:World) (h:RdBad w b s) :
  Calls Tryz.prog 126 #[.pointer (some ⟨b,0,none⟩),.int .i64 n] w fun e w'=>e=.returned (.string ⟨#[]⟩)∧w=w':=by
 obtain ⟨p,f,hf,hp,h⟩:=h
 have H:=Lib.hid h;have HF:=Lib.hid hf;clear h hf
 go_enter Tryz.func126,Tryz.ntmps126
 go_wp2_with (go_at_call 122;refine (rd_dead1 H.out HF.out).mono ?_;rintro e w' ⟨rfl,rfl⟩)
 go_ret
 exact ⟨rfl,rfl⟩

set_option maxHeartbeats 1000000 in
theorem rd_raw (b n:Nat) (s l:Bs) (w:World) (h:RdOk w b s l) (hs:s.length≤140737488351232) (hn:n≤9223372036854775807) :
  Calls Tryz.prog 126 #[.pointer (some ⟨b,0,none⟩),.int .i64 n] w (StrPost w b s (rawP n l)):=by
 obtain ⟨p,hp,hl,h⟩:=h
 obtain ⟨c0,c1,c2,c3⟩:=h.cells
 have f2:=Blk.frozen h 2
 have f3:=Blk.frozen h 3
 have H:=Lib.hid h;clear h
 have HL:=Lib.hid hl;clear hl
 have hp':p≤s.length:=by omega
 by_cases h0:n=0
 ·subst h0
  go_enter Tryz.func126,Tryz.ntmps126
  go_wp2_with (go_at_call 122;refine (rd_dead0 H.out).mono ?_;rintro e w' ⟨rfl,rfl⟩)
  go_ret
  exact ⟨rfl,Kp.refl _ _,p,by simpa using hp,by simpa using HL.out,H.out⟩
 ·have h1:1≤n:=by omega
  by_cases hle:n≤l.length
  ·have hr:Hid (rawP n l=some (l.take n,l.drop n)):=by show _=_;simp [rawP,hle]
   have hpn:p+n≤s.length:=by omega
   have HP:=Lib.hid hp;clear hp
   have hlt:¬ ((s.length:Int) - p<n):=by omega
   go_enter Tryz.func126,Tryz.ntmps126
   go_wp2_with (first | (go_at_call 122;refine (rd_dead0 H.out).mono ?_;rintro e w' ⟨rfl,rfl⟩) | (go_at_call 124;refine (rd_left _ _ _ _ _ H.out hs hp').mono ?_;rintro e w' ⟨rfl,nq,rfl⟩))
   go_quiet (fail)
   go_wp2
   go_ret
   rw [hr.out]
   refine ⟨?_,((Kp.refl _ _).drewN _).setCell _ (.inr (by simp)),p+n,by simp;have:=HP.out;omega,by rw [HL.out,List.drop_drop],?_⟩
   ·show Ending.returned (.string (ByteArray.extract ⟨s.toArray⟩ p (p+n)))=_
    rw [ext_drop,HL.out]
   ·rw [Int.natCast_add]
    exact (RdAt.setAt (w:=w.drewN _) (Blk.drewN H.out _) _)
  ·have hr:Hid (rawP n l=none):=by show _=_;simp [rawP,hle]
   have hlt:(s.length:Int) - p<n:=by omega
   go_enter Tryz.func126,Tryz.ntmps126
   go_wp2_with (first | (go_at_call 122;refine (rd_dead0 H.out).mono ?_;rintro e w' ⟨rfl,rfl⟩) | (go_at_call 124;refine (rd_left _ _ _ _ _ H.out hs hp').mono ?_;rintro e w' ⟨rfl,nq,rfl⟩) | (go_at_call 125;refine (rd_fail _ _ _ _ _ _ _ (Blk.drewN H.out _)).mono ?_;rintro e w' ⟨rfl,hk1,hr1⟩))
   go_ret
   rw [hr.out]
   exact ⟨rfl,((Kp.refl _ _).drewN _).trans hk1,hr1.bad (by decide) hp'⟩

set_option maxHeartbeats 400000 in
theorem rd_text_bad (b:Nat) (s:Bs) (n:Int) (w:World) (h:RdBad w b s) :
  Calls Tryz.prog 88 #[.pointer (some ⟨b,0,none⟩),.int .i64 n] w fun e w'=>e=.returned (.string ⟨#[]⟩)∧w=w':=by
 obtain ⟨p,f,hf,hp,h⟩:=h
 have H:=Lib.hid h;have HF:=Lib.hid hf;clear h hf
 go_enter Tryz.func88,Tryz.ntmps88
 go_wp2_with (go_at_call 122;refine (rd_dead1 H.out HF.out).mono ?_;rintro e w' ⟨rfl,rfl⟩)
 go_ret
 exact ⟨rfl,rfl⟩

set_option maxHeartbeats 1000000 in
theorem rd_text (b m:Nat) (s l:Bs) (w:World) (h:RdOk w b s l) (hs:s.length≤140737488351232) (hm0:0<m) (hm:m≤9223372036854775807) :
  Calls Tryz.prog 88 #[.pointer (some ⟨b,0,none⟩),.int .i64 m] w (StrPost w b s (textP m l)):=by
 have hm':m<18446744073709551616:=by omega
 have HO:=Lib.hid h
 obtain ⟨p,hp,hl,h⟩:=h
 obtain ⟨c0,c1,c2,c3⟩:=h.cells
 have H:=Lib.hid h;clear h
 have HL:=Lib.hid hl;clear hl
 have hp':p≤s.length:=by omega
 have HP:=Lib.hid hp;clear hp
 rcases hf:freeP m l with _ | ⟨n,l'⟩
 ·have HF:=Lib.hid hf;clear hf
  have HT:Hid (textP m l=none):=by show _=_;unfold textP;rw [HF.out]
  go_enter Tryz.func88,Tryz.ntmps88
  go_wp2_with (first | (go_at_call 122;refine (rd_dead0 H.out).mono ?_;rintro e w' ⟨rfl,rfl⟩))
  refine (rd_free _ _ _ _ _ HO.out hs hm').mono ?_
  rintro e w1 h1
  rw [HF.out] at h1
  obtain ⟨rfl,hk1,hr1⟩:=h1
  have HR:=Lib.hid hr1
  obtain ⟨p',f',hf',hp1,hr1⟩:=hr1
  have H1:=Lib.hid hr1;have HF1:=Lib.hid hf';clear hr1 hf'
  go_wp2_with (first | (go_at_call 122;refine (rd_dead1 H1.out HF1.out).mono ?_;rintro e w' ⟨rfl,rfl⟩))
  go_ret
  rw [HT.out]
  exact ⟨rfl,hk1,HR.out⟩
 ·have HF:=Lib.hid hf
  obtain ⟨hsuf,hlen,hnm⟩:=freeP_rest hf
  clear hf
  go_enter Tryz.func88,Tryz.ntmps88
  go_wp2_with (first | (go_at_call 122;refine (rd_dead0 H.out).mono ?_;rintro e w' ⟨rfl,rfl⟩))
  refine (rd_free _ _ _ _ _ HO.out hs hm').mono ?_
  rintro e w1 h1
  rw [HF.out] at h1
  obtain ⟨rfl,hk1,hr1⟩:=h1
  have HR:=Lib.hid hr1
  obtain ⟨p',hp1,hl1,hr1⟩:=hr1
  have H1:=Lib.hid hr1;clear hr1 hl1
  have hp1':p'≤s.length:=by omega
  by_cases hle:n≤l'.length
  ·have HT:Hid (textP m l=rawP n l'):=by show _=_;unfold textP;rw [HF.out]
   have hlt:¬ ((s.length:Int) - p'<n):=by omega
   have hn63:n≤9223372036854775807:=by omega
   have HP1:=Lib.hid hp1;clear hp1
   go_wp2_with (first | (go_at_call 122;refine (rd_dead0 H1.out).mono ?_;rintro e w' ⟨rfl,rfl⟩) | (go_at_call 124;refine (rd_left _ _ _ _ _ H1.out hs hp1').mono ?_;rintro e w' ⟨rfl,nq,rfl⟩))
   refine (rd_raw _ _ _ _ _ (HR.out.kp ((Kp.refl [] _).drewN _) (by simp)) hs hn63).mono ?_
   rintro e w2 h2
   have hr:rawP n l'=some (l'.take n,l'.drop n):=by simp [rawP,hle]
   rw [hr] at h2 HT
   obtain ⟨rfl,hk2,hr2⟩:=h2
   have HR2:=Lib.hid hr2;clear hr2 hr
   go_wp2_with fail
   go_ret
   rw [HT.out]
   exact ⟨rfl,(hk1.drewN _).trans hk2,HR2.out⟩
  ·have HT:Hid (textP m l=none):=by show _=_;unfold textP;rw [HF.out];simp [rawP,hle]
   have hlt:((s.length:Int) - p'<n):=by omega
   have HP1:=Lib.hid hp1;clear hp1
   go_wp2_with (first | (go_at_call 122;refine (rd_dead0 H1.out).mono ?_;rintro e w' ⟨rfl,rfl⟩) | (go_at_call 124;refine (rd_left _ _ _ _ _ H1.out hs hp1').mono ?_;rintro e w' ⟨rfl,nq,rfl⟩) | (go_at_call 125;refine (rd_fail _ _ _ _ _ _ _ (Blk.drewN H1.out _)).mono ?_;rintro e w' ⟨rfl,hk2,hr2⟩))
   go_ret
   rw [HT.out]
   exact ⟨rfl,(hk1.drewN _).trans hk2,hr2.bad (by decide) hp'⟩


theorem be_app (a b:Bs) (acc:Nat):be (a++b) acc=be b (be a acc):=by
 induction a generalizing acc with
 | nil=>rfl
 | cons x t ih=>exact ih _
theorem be_le:∀ (l:Bs) (acc:Nat),be l acc<(acc+1)*256 ^ l.length
 | [],acc=>by simp [be]
 | x::t,acc=>by
  have h:=be_le t (acc*256+x.toNat)
  have hx:=x.toNat_lt
  have h2:(acc*256+x.toNat+1)*256 ^ t.length≤((acc+1)*256)*256 ^ t.length:=Nat.mul_le_mul_right _ (by omega)
  rw [List.length_cons,Nat.pow_succ,Nat.mul_comm (256 ^ t.length) 256,← Nat.mul_assoc]
  exact Nat.lt_of_lt_of_le h h2
theorem be_lt (l:Bs):be l 0<256 ^ l.length:=by simpa using be_le l 0

theorem pow_uint8:∀ k,k<8→((2:Int) ^ k % 256 != 0)=true:=by decide
theorem dbl_uint8 (k:Nat):(2:Int) ^ k % 256*2 % 256=2 ^ (k+1) % 256:=by rw [Int.pow_succ];omega

set_option maxHeartbeats 1000000 in
theorem width_uint8 (w:World):Calls Tryz.prog 156 #[] w fun e w'=>e=.returned (.int .i64 1)∧w=w':=by
 go_enter Tryz.func156,Tryz.ntmps156
 go_wp2
 go_loop [1,2] (fun n x=>∃ k:Nat,k≤8∧n=.int .i64 k∧x=.int .u8 ((2:Int) ^ k % 256)) (fun n _=>8 - (intOf n).toNat)
 case atStart=>exact ⟨0,by omega,rfl,rfl⟩
 case round=>
  obtain ⟨k,hk,rfl,rfl⟩:=hrel
  by_cases h8:k=8
  ·subst h8
   go_wp2
   go_ret
   exact ⟨rfl,rfl⟩
  ·have hb:=pow_uint8 k (by omega)
   go_wp2
   go_round
   case rel=>exact ⟨k+1,by omega,by go_num,by rw [← dbl_uint8]⟩
   case measure=>simp [intOf];omega

def TakePostuint8 (w:World) (b:Nat) (s:Bs) (r:Option (Nat×Bs)) (e:Ending) (w':World):Prop:=
 match r with
 | some (n,l')=>e=.returned (.int .u8 n)∧Kp [b] w w'∧RdOk w' b s l'
 | none=>e=.returned (.int .u8 0)∧Kp [b] w w'∧RdBad w' b s

set_option maxHeartbeats 400000 in
theorem take_bad_uint8 (b:Nat) (s:Bs) (w:World) (h:RdBad w b s) :
  Calls Tryz.prog 133 #[.pointer (some ⟨b,0,none⟩)] w fun e w'=>e=.returned (.int .u8 0)∧w=w':=by
 obtain ⟨p,f,hf,hp,h⟩:=h
 have H:=Lib.hid h;have HF:=Lib.hid hf;clear h hf
 go_enter Tryz.func133,Tryz.ntmps133
 go_wp2_with (go_at_call 122;refine (rd_dead1 H.out HF.out).mono ?_;rintro e w' ⟨rfl,rfl⟩)
 go_ret
 exact ⟨rfl,rfl⟩

set_option maxHeartbeats 2000000 in
set_option maxRecDepth 100000 in
theorem take_uint8 (b:Nat) (s l:Bs) (w:World) (h:RdOk w b s l) (hs:s.length≤140737488351232) :
  Calls Tryz.prog 133 #[.pointer (some ⟨b,0,none⟩)] w (TakePostuint8 w b s (takeP 1 l)):=by
 obtain ⟨p,hp,hl,h⟩:=h
 obtain ⟨c0,c1,c2,c3⟩:=h.cells
 have f2:=Blk.frozen h 2
 have f3:=Blk.frozen h 3
 have H:=Lib.hid h;clear h
 have HL:=Lib.hid hl;clear hl
 have hp':p≤s.length:=by omega
 by_cases hle:1≤l.length
 ·have hr:Hid (takeP 1 l=some (be (l.take 1) 0,l.drop 1)):=by show _=_;simp [takeP,hle]
  have hlt:¬ ((s.length:Int) - p<1):=by omega
  have hpn:p+1≤s.length:=by omega
  have HP:=Lib.hid hp;clear hp
  go_enter Tryz.func133,Tryz.ntmps133
  go_wp2_with (first | (go_at_call 122;refine (rd_dead0 H.out).mono ?_;rintro e w' ⟨rfl,rfl⟩) | (go_at_call 156;refine (width_uint8 _).mono ?_;rintro e w' ⟨rfl,rfl⟩) | (go_at_call 124;refine (rd_left _ _ _ _ _ H.out hs hp').mono ?_;rintro e w' ⟨rfl,nq,rfl⟩))
  go_loopw [4,5,20] (fun x _ i wr=>∃ k X:Nat,k≤1∧i=.int .i64 k∧x=.int .u64 X∧Hid (X=be ((s.drop p).take k) 0)∧∃ nn,wr=w.drewN nn) (fun _ _ i _=>1 - (intOf i).toNat)
  case atStart=>exact ⟨0,0,by omega,rfl,rfl,rfl,_,rfl⟩
  case round=>
   obtain ⟨k,X,hk,rfl,rfl,HX,nn,rfl⟩:=hrel
   have hb:=be_lt ((s.drop p).take k)
   rw [← HX.out,List.length_take,List.length_drop,show min k (s.length - p)=k by omega] at hb
   have hX:X<256 ^ 1:=Nat.lt_of_lt_of_le hb (Nat.pow_le_pow_right (by omega) hk)
   by_cases hkn:k=1
   ·subst hkn
    clear hb
    have hXb:X<256:=by omega
    clear hX
    go_wp2
    go_ret
    rw [hr.out,HL.out,← HX.out]
    exact ⟨rfl,((Kp.refl _ _).drewN _).setCell _ (.inr (by simp)),p+1,by simp;omega,by simp,RdAt.setAt (w:=w.drewN _) (Blk.drewN H.out _) _⟩
   ·have hkl:k<1:=by omega
    have hX2:X<256 ^ 0:=Nat.lt_of_lt_of_le hb (Nat.pow_le_pow_right (by omega) (by omega))
    clear hb hX
    have e1:IntKind.i64.wrap ((p:Int)+k)=p+k:=IntWalk.i64_in _ (by omega)
    have e2:(0:Int)≤p+k:=by omega
    have e3:((p:Int)+k).toNat=p+k:=by omega
    have e4:p+k<s.length:=by omega
    obtain ⟨c,hcell,hsc,hc⟩:=byte_at s (p+k) e4
    have HS:=Lib.hid hsc;clear hsc
    have e5:bits .or .u64 ((X:Int)*256) (c:Int)=((X*256+c:Nat):Int):=by
     have:X*256+256≤256:=by omega
     rw [show (X:Int)*256=((X*2 ^ 8:Nat):Int) by omega,u64_or_nat _ _ (by omega) (by omega),Nat.or_comm,or_shift _ _ _ (by omega),Nat.add_comm]
    go_wp2
    go_quiet (fail)
    clear e1 e2 e3
    go_wp2
    go_roundw
    case rel=>exact ⟨k+1,X*256+c,by omega,by go_num,by first | rfl | rw [e5],by show _=_;rw [HX.out,List.take_add_one,List.getElem?_drop,List.getElem?_eq_getElem e4,be_app,← HS.out];rfl,_,rfl⟩
    case measure=>simp [intOf];omega
 ·have hr:Hid (takeP 1 l=none):=by show _=_;simp [takeP,hle]
  have hlt:(s.length:Int) - p<1:=by omega
  go_enter Tryz.func133,Tryz.ntmps133
  go_wp2_with (first | (go_at_call 122;refine (rd_dead0 H.out).mono ?_;rintro e w' ⟨rfl,rfl⟩) | (go_at_call 156;refine (width_uint8 _).mono ?_;rintro e w' ⟨rfl,rfl⟩) | (go_at_call 124;refine (rd_left _ _ _ _ _ H.out hs hp').mono ?_;rintro e w' ⟨rfl,nq,rfl⟩) | (go_at_call 125;refine (rd_fail _ _ _ _ _ _ _ (Blk.drewN H.out _)).mono ?_;rintro e w' ⟨rfl,hk1,hr1⟩))
  go_ret
  rw [hr.out]
  exact ⟨rfl,((Kp.refl _ _).drewN _).trans hk1,hr1.bad (by decide) hp'⟩

theorem pow_uint32:∀ k,k<32→((2:Int) ^ k % 4294967296 != 0)=true:=by decide
theorem dbl_uint32 (k:Nat):(2:Int) ^ k % 4294967296*2 % 4294967296=2 ^ (k+1) % 4294967296:=by rw [Int.pow_succ];omega

set_option maxHeartbeats 1000000 in
theorem width_uint32 (w:World):Calls Tryz.prog 157 #[] w fun e w'=>e=.returned (.int .i64 4)∧w=w':=by
 go_enter Tryz.func157,Tryz.ntmps157
 go_wp2
 go_loop [1,2] (fun n x=>∃ k:Nat,k≤32∧n=.int .i64 k∧x=.int .u32 ((2:Int) ^ k % 4294967296)) (fun n _=>32 - (intOf n).toNat)
 case atStart=>exact ⟨0,by omega,rfl,rfl⟩
 case round=>
  obtain ⟨k,hk,rfl,rfl⟩:=hrel
  by_cases h8:k=32
  ·subst h8
   go_wp2
   go_ret
   exact ⟨rfl,rfl⟩
  ·have hb:=pow_uint32 k (by omega)
   go_wp2
   go_round
   case rel=>exact ⟨k+1,by omega,by go_num,by rw [← dbl_uint32]⟩
   case measure=>simp [intOf];omega

def TakePostuint32 (w:World) (b:Nat) (s:Bs) (r:Option (Nat×Bs)) (e:Ending) (w':World):Prop:=
 match r with
 | some (n,l')=>e=.returned (.int .u32 n)∧Kp [b] w w'∧RdOk w' b s l'
 | none=>e=.returned (.int .u32 0)∧Kp [b] w w'∧RdBad w' b s

set_option maxHeartbeats 400000 in
theorem take_bad_uint32 (b:Nat) (s:Bs) (w:World) (h:RdBad w b s) :
  Calls Tryz.prog 139 #[.pointer (some ⟨b,0,none⟩)] w fun e w'=>e=.returned (.int .u32 0)∧w=w':=by
 obtain ⟨p,f,hf,hp,h⟩:=h
 have H:=Lib.hid h;have HF:=Lib.hid hf;clear h hf
 go_enter Tryz.func139,Tryz.ntmps139
 go_wp2_with (go_at_call 122;refine (rd_dead1 H.out HF.out).mono ?_;rintro e w' ⟨rfl,rfl⟩)
 go_ret
 exact ⟨rfl,rfl⟩

set_option maxHeartbeats 2000000 in
set_option maxRecDepth 100000 in
theorem take_uint32 (b:Nat) (s l:Bs) (w:World) (h:RdOk w b s l) (hs:s.length≤140737488351232) :
  Calls Tryz.prog 139 #[.pointer (some ⟨b,0,none⟩)] w (TakePostuint32 w b s (takeP 4 l)):=by
 obtain ⟨p,hp,hl,h⟩:=h
 obtain ⟨c0,c1,c2,c3⟩:=h.cells
 have f2:=Blk.frozen h 2
 have f3:=Blk.frozen h 3
 have H:=Lib.hid h;clear h
 have HL:=Lib.hid hl;clear hl
 have hp':p≤s.length:=by omega
 by_cases hle:4≤l.length
 ·have hr:Hid (takeP 4 l=some (be (l.take 4) 0,l.drop 4)):=by show _=_;simp [takeP,hle]
  have hlt:¬ ((s.length:Int) - p<4):=by omega
  have hpn:p+4≤s.length:=by omega
  have HP:=Lib.hid hp;clear hp
  go_enter Tryz.func139,Tryz.ntmps139
  go_wp2_with (first | (go_at_call 122;refine (rd_dead0 H.out).mono ?_;rintro e w' ⟨rfl,rfl⟩) | (go_at_call 157;refine (width_uint32 _).mono ?_;rintro e w' ⟨rfl,rfl⟩) | (go_at_call 124;refine (rd_left _ _ _ _ _ H.out hs hp').mono ?_;rintro e w' ⟨rfl,nq,rfl⟩))
  go_loopw [4,5,20] (fun x _ i wr=>∃ k X:Nat,k≤4∧i=.int .i64 k∧x=.int .u64 X∧Hid (X=be ((s.drop p).take k) 0)∧∃ nn,wr=w.drewN nn) (fun _ _ i _=>4 - (intOf i).toNat)
  case atStart=>exact ⟨0,0,by omega,rfl,rfl,rfl,_,rfl⟩
  case round=>
   obtain ⟨k,X,hk,rfl,rfl,HX,nn,rfl⟩:=hrel
   have hb:=be_lt ((s.drop p).take k)
   rw [← HX.out,List.length_take,List.length_drop,show min k (s.length - p)=k by omega] at hb
   have hX:X<256 ^ 4:=Nat.lt_of_lt_of_le hb (Nat.pow_le_pow_right (by omega) hk)
   by_cases hkn:k=4
   ·subst hkn
    clear hb
    have hXb:X<4294967296:=by omega
    clear hX
    go_wp2
    go_ret
    rw [hr.out,HL.out,← HX.out]
    exact ⟨rfl,((Kp.refl _ _).drewN _).setCell _ (.inr (by simp)),p+4,by simp;omega,by simp,RdAt.setAt (w:=w.drewN _) (Blk.drewN H.out _) _⟩
   ·have hkl:k<4:=by omega
    have hX2:X<256 ^ 3:=Nat.lt_of_lt_of_le hb (Nat.pow_le_pow_right (by omega) (by omega))
    clear hb hX
    have e1:IntKind.i64.wrap ((p:Int)+k)=p+k:=IntWalk.i64_in _ (by omega)
    have e2:(0:Int)≤p+k:=by omega
    have e3:((p:Int)+k).toNat=p+k:=by omega
    have e4:p+k<s.length:=by omega
    obtain ⟨c,hcell,hsc,hc⟩:=byte_at s (p+k) e4
    have HS:=Lib.hid hsc;clear hsc
    have e5:bits .or .u64 ((X:Int)*256) (c:Int)=((X*256+c:Nat):Int):=by
     have:X*256+256≤4294967296:=by omega
     rw [show (X:Int)*256=((X*2 ^ 8:Nat):Int) by omega,u64_or_nat _ _ (by omega) (by omega),Nat.or_comm,or_shift _ _ _ (by omega),Nat.add_comm]
    go_wp2
    go_quiet (fail)
    clear e1 e2 e3
    go_wp2
    go_roundw
    case rel=>exact ⟨k+1,X*256+c,by omega,by go_num,by first | rfl | rw [e5],by show _=_;rw [HX.out,List.take_add_one,List.getElem?_drop,List.getElem?_eq_getElem e4,be_app,← HS.out];rfl,_,rfl⟩
    case measure=>simp [intOf];omega
 ·have hr:Hid (takeP 4 l=none):=by show _=_;simp [takeP,hle]
  have hlt:(s.length:Int) - p<4:=by omega
  go_enter Tryz.func139,Tryz.ntmps139
  go_wp2_with (first | (go_at_call 122;refine (rd_dead0 H.out).mono ?_;rintro e w' ⟨rfl,rfl⟩) | (go_at_call 157;refine (width_uint32 _).mono ?_;rintro e w' ⟨rfl,rfl⟩) | (go_at_call 124;refine (rd_left _ _ _ _ _ H.out hs hp').mono ?_;rintro e w' ⟨rfl,nq,rfl⟩) | (go_at_call 125;refine (rd_fail _ _ _ _ _ _ _ (Blk.drewN H.out _)).mono ?_;rintro e w' ⟨rfl,hk1,hr1⟩))
  go_ret
  rw [hr.out]
  exact ⟨rfl,((Kp.refl _ _).drewN _).trans hk1,hr1.bad (by decide) hp'⟩

end Go.Proofs.YtcaggadjkccbiaaGreat