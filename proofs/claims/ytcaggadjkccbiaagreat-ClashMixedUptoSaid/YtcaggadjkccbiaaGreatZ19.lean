/- pack.List of pairs, over the contract of the closure that reads one. -/
import Derived.Test.YtcaggadjkccbiaaGreatZ18
namespace Go.Proofs.YtcaggadjkccbiaaGreat
set_option maxHeartbeats 1000000
set_option maxRecDepth 100000
set_option linter.unusedVariables false
set_option linter.unusedSimpArgs false
open Go Go.RowKit

abbrev tvP (x:Pr):Value:=.agg #[.string ⟨x.1.toArray⟩,.string ⟨x.2.toArray⟩]
abbrev csP (x:Pr):List Value:=[.string ⟨x.1.toArray⟩,.string ⟨x.2.toArray⟩]

theorem list_pair {α:Type} {step:α→Bs→Option (α×Pr×Bs)} {J:α→World→List Nat→Prop} {I:α→Bs→Prop} (b m:Nat) (s l:Bs) (x0:α) (fp:List Nat) (caps:Array Value) (w:World)
  (hst:St b J) (hI0:∀ n l',freeP m l=some (n,l')→I x0 l') (hI:∀ x l x' t l',I x l→step x l=some (x',t,l')→I x' l') (hone:∀ x l fp w,I x l→RdOk w b s l→J x w fp→Calls Tryz.prog 135 (#[.pointer (some ⟨b,0,none⟩)]++caps) w (OnePost tvP J b s fp w (step x l)))
  (h:RdOk w b s l) (hj:J x0 w fp) (hs:s.length≤3909374676453) (hm0:0<m) (hm:m≤9223372036854775807) :
  Calls Tryz.prog 134 #[.pointer (some ⟨b,0,none⟩),.int .i64 m,.func (.func 135) #[] caps] w (ListPost csP 73 2 J b s fp w (listP m step x0 l)):=by
 have hm':m<18446744073709551616:=by omega
 have hs':s.length≤140737488351232:=by omega
 have HO:=Lib.hid h;have HST:=Lib.hid hst;have HONE:=Lib.hid hone;have HJ:=Lib.hid hj;have HI0:=Lib.hid hI0;have HI:=Lib.hid hI;clear hst hone hj hI0 hI
 obtain ⟨p,hp,hl,h⟩:=h
 obtain ⟨c0,c1,c2,c3⟩:=h.cells
 have H:=Lib.hid h;clear h hl
 have hp':p≤s.length:=by omega
 clear hp
 rcases hf:freeP m l with _ | ⟨n,l0⟩
 ·have HF:=Lib.hid hf;clear hf
  have HT:Hid (listP m step x0 l=none):=by show _=_;unfold listP;rw [HF.out]
  go_enter Tryz.func134,Tryz.ntmps134
  go_wp2_with (first | (go_at_call 122;refine (rd_dead0 H.out).mono ?_;rintro e w' ⟨rfl,rfl⟩))
  refine (rd_free _ _ _ _ _ HO.out hs' hm').mono ?_
  rintro e w1 h1
  rw [HF.out] at h1
  obtain ⟨rfl,hk1,hr1⟩:=h1
  have HR:=Lib.hid hr1;have HK:=Lib.hid hk1;clear hk1
  obtain ⟨p',f',hf',hp1,hr1⟩:=hr1
  have H1:=Lib.hid hr1;have HF1:=Lib.hid hf';clear hr1 hf'
  go_wp2_with (first | (go_at_call 122;refine (rd_dead1 H1.out HF1.out).mono ?_;rintro e w' ⟨rfl,rfl⟩))
  go_ret
  rw [HT.out]
  exact ⟨none,0,[],x0,fp,rfl,Own.nil _ _ _,HST.out.kp HJ.out HK.out (fun g hg=>by have:=(HST.out.lt HJ.out g hg).2;simp [this]),HK.out.mono (fun k _ hk=>by simp at hk;simp [hk]),fun g hg=>.inl hg,by simp [ab],rfl,HR.out⟩
 ·have HF:=Lib.hid hf
  obtain ⟨hsuf,hlen,hnm⟩:=freeP_rest hf
  clear hf hsuf
  go_enter Tryz.func134,Tryz.ntmps134
  go_wp2_with (first | (go_at_call 122;refine (rd_dead0 H.out).mono ?_;rintro e w' ⟨rfl,rfl⟩))
  refine (rd_free _ _ _ _ _ HO.out hs' hm').mono ?_
  rintro e w1 h1
  rw [HF.out] at h1
  obtain ⟨rfl,hk1,hr1⟩:=h1
  have HR:=Lib.hid hr1;have HK:=Lib.hid hk1;clear hk1
  obtain ⟨p',hp1,hl1,hr1⟩:=hr1
  have H1:=Lib.hid hr1;clear hr1 hl1
  have hp1':p'≤s.length:=by omega
  by_cases hle:n≤l0.length
  ·have HT:Hid (listP m step x0 l=manyP step n x0 l0):=by show _=_;unfold listP;rw [HF.out];simp [hle]
   have hlt:¬ ((s.length:Int) - p'<n):=by omega
   have hns:n≤3909374676453:=by omega
   clear hle hlen hp1 hnm hp'
   go_wp2_with (first | (go_at_call 122;refine (rd_dead0 H1.out).mono ?_;rintro e w' ⟨rfl,rfl⟩) | (go_at_call 124;refine (rd_left _ _ _ _ _ H1.out hs' hp1').mono ?_;rintro e w' ⟨rfl,nq,rfl⟩))
   go_loopw [9,10,33] (fun v _ i wr=>∃ (k c:Nat) (a:Option Addr) (ts:List Pr) (x:α) (fp':List Nat) (l':Bs),i=.int .u64 (k:Nat)∧v=.slice a k c∧k≤n∧Hid (Mid step n x0 l0 k x ts l')∧Hid (Own wr 73 2 a k c (ts.flatMap csP))∧Hid (J x wr fp')∧Hid (RdOk wr b s l')∧Hid (I x l')∧Hid (Kp (b::fp) w wr)∧Hid (∀ g∈fp',g∈fp∨w.heap.size≤g)∧Hid (∀ g∈ab a,w.heap.size≤g∧g ∉ fp')) (fun _ _ i _=>n - (intOf i).toNat)
   case atStart=>exact ⟨0,0,none,[],x0,fp,l0,rfl,rfl,Nat.zero_le _,Mid.start _ _ _ _,Own.nil _ _ _,HST.out.kp HJ.out (HK.out.drewN _) (fun g hg=>by have:=(HST.out.lt HJ.out g hg).2;simp [this]),HR.out.kp ((Kp.refl [] _).drewN _) (by simp),HI0.out _ _ HF.out,(HK.out.drewN _).mono (fun k _ hk=>by simp at hk;simp [hk]),fun g hg=>.inl hg,by simp [Hid,ab]⟩
   case round=>
    obtain ⟨k,c,a,ts,x,fp',l',rfl,rfl,hk,HM,HOW,HJ1,HRD,HII,HKP,HFP,HAB⟩:=hrel
    by_cases hlt2:k<n
    ·rcases hstep:step x l' with _ | ⟨x1,t1,l1⟩
     ·have HS:=Lib.hid hstep;clear hstep
      go_wp2_with fail
      refine (HONE.out _ _ _ _ HII.out (HRD.out.kp ((Kp.refl [] _).alloc _) (by simp)) (HST.out.kp HJ1.out ((Kp.refl [] _).alloc _) (by simp))).mono ?_
      rintro e w2 ⟨t,x2,fp2,rfl,hj2,k2,hf2,hr2⟩
      rw [HS.out] at hr2
      have HJ2:=Lib.hid hj2;have K2:=Lib.hid k2;have HF2:=Lib.hid hf2
      have hnb:wr.heap.size ∉ b::fp':=by
       have h1:=HRD.out.lt
       simp only [List.mem_cons,not_or]
       exact ⟨by omega,fun h=>by have:=(HST.out.lt HJ1.out _ h).1;omega⟩
      have hbx:=(Blk.new wr 73 #[.string ⟨#[]⟩,.string ⟨#[]⟩]).kp k2 hnb
      have HBX:=Lib.hid hbx
      have hx0:=k2.size
      simp only [World.size_alloc] at hx0
      have x0:=hbx.cell 0;have x1:=hbx.cell 1;have x2f:=hbx.frozen 0;have x3f:=hbx.frozen 1;simp only [List.getElem?_toArray,List.getElem?_cons_zero,List.getElem?_cons_succ] at x0 x1
      clear hj2 k2 hf2 hnb hbx
      have hbw:=HRD.out.lt
      obtain ⟨pb,fb,hf',hpb,hr2⟩:=hr2
      have HR2:=Lib.hid hr2;have HFB:=Lib.hid hf';clear hr2 hf'
      go_wp2_with (first | (go_at_call 122;refine (rd_dead1 (Blk.kp HR2.out (((Kp.refl [wr.heap.size] w2).setCell (a:=⟨wr.heap.size,0,none⟩) _ (.inr (by simp))).setCell (a:=⟨wr.heap.size,1,none⟩) _ (.inr (by simp))) (by simp;omega)) HFB.out).mono ?_;rintro e w' ⟨rfl,rfl⟩))
      go_ret
      rw [HT.out,HM.out.fail hlt2 HS.out]
      obtain ⟨-,h2,h3,h4,-,-⟩:=list_round HST.out HO.out.lt HOW.out HKP.out HJ1.out HFP.out HAB.out K2.out HJ2.out HF2.out (((Kp.refl [wr.heap.size] w2).setCell (a:=⟨wr.heap.size,0,none⟩) _ (.inr (by simp))).setCell (a:=⟨wr.heap.size,1,none⟩) _ (.inr (by simp)))
      exact ⟨none,0,[],_,fp2,rfl,Own.nil _ _ _,h2,h3,h4,by simp [ab],rfl,_,_,HFB.out,hpb,Blk.kp HR2.out (((Kp.refl [wr.heap.size] w2).setCell (a:=⟨wr.heap.size,0,none⟩) _ (.inr (by simp))).setCell (a:=⟨wr.heap.size,1,none⟩) _ (.inr (by simp))) (by simp;omega)⟩
     ·have HS:=Lib.hid hstep;clear hstep
      go_wp2_with fail
      refine (HONE.out _ _ _ _ HII.out (HRD.out.kp ((Kp.refl [] _).alloc _) (by simp)) (HST.out.kp HJ1.out ((Kp.refl [] _).alloc _) (by simp))).mono ?_
      rintro e w2 ⟨t,x2,fp2,rfl,hj2,k2,hf2,hr2⟩
      rw [HS.out] at hr2
      obtain ⟨rfl,rfl,hr2⟩:=hr2
      have HJ2:=Lib.hid hj2;have K2:=Lib.hid k2;have HF2:=Lib.hid hf2;have HRO:=Lib.hid hr2
      have hnb:wr.heap.size ∉ b::fp':=by
       have h1:=HRD.out.lt
       simp only [List.mem_cons,not_or]
       exact ⟨by omega,fun h=>by have:=(HST.out.lt HJ1.out _ h).1;omega⟩
      have hbx:=(Blk.new wr 73 #[.string ⟨#[]⟩,.string ⟨#[]⟩]).kp k2 hnb
      have HBX:=Lib.hid hbx
      have hx0:=k2.size
      simp only [World.size_alloc] at hx0
      have x0:=hbx.cell 0;have x1:=hbx.cell 1;have x2f:=hbx.frozen 0;have x3f:=hbx.frozen 1;simp only [List.getElem?_toArray,List.getElem?_cons_zero,List.getElem?_cons_succ] at x0 x1
      clear hj2 k2 hf2 hnb hbx
      have hbw:=HRD.out.lt
      obtain ⟨pb,hpb,-,hr2⟩:=hr2
      have HR2:=Lib.hid hr2;clear hr2
      have HX:=Lib.hid (fun (w3:World) (k3:Kp [wr.heap.size] w2 w3)=>list_round HST.out HO.out.lt HOW.out HKP.out HJ1.out HFP.out HAB.out K2.out HJ2.out HF2.out k3)
      go_wp2_with (first | (go_at_call 122;refine (rd_dead0 (Blk.kp HR2.out (((Kp.refl [wr.heap.size] w2).setCell (a:=⟨wr.heap.size,0,none⟩) _ (.inr (by simp))).setCell (a:=⟨wr.heap.size,1,none⟩) _ (.inr (by simp))) (by simp;omega))).mono ?_;rintro e w' ⟨rfl,rfl⟩) | (at_builtin;refine wpList_app_pair rfl rfl rfl (HX.out _ ((((Kp.refl [wr.heap.size] w2).setCell (a:=⟨wr.heap.size,0,none⟩) _ (.inr (by simp))).setCell (a:=⟨wr.heap.size,1,none⟩) _ (.inr (by simp))).alloc _)).1 1 _ (src_row Tryz.underlying46 _ _ _ _ (by simp) rfl (by simp [Value.oneCell'])) (by omega) ?_;intro a2 c2 w4 hown hk4 hn4;have HO4:=Lib.hid hown;have HK4:=Lib.hid hk4;have HN4:=Lib.hid hn4;clear hown hk4 hn4))
      obtain ⟨h1,h2,h3,h4,h5,h6⟩:=HX.out _ ((((Kp.refl [wr.heap.size] w2).setCell (a:=⟨wr.heap.size,0,none⟩) _ (.inr (by simp))).setCell (a:=⟨wr.heap.size,1,none⟩) _ (.inr (by simp))).alloc (.cells #[.string ⟨t.1.toArray⟩,.string ⟨t.2.toArray⟩] 73))
      obtain ⟨g1,g2,g3,g4⟩:=list_round2 HST.out h1 h2 h3 h5 h6 (HRO.out.kp ((((Kp.refl [wr.heap.size] w2).setCell (a:=⟨wr.heap.size,0,none⟩) _ (.inr (by simp))).setCell (a:=⟨wr.heap.size,1,none⟩) _ (.inr (by simp))).alloc (.cells #[.string ⟨t.1.toArray⟩,.string ⟨t.2.toArray⟩] 73)) (by simp;omega)) HK4.out HN4.out
      go_roundw
      case rel=>exact ⟨k+1,c2,a2,ts++[t],x2,fp2,l1,by go_num,rfl,by omega,HM.out.step hlt2 HS.out,by have:=HO4.out;show Own _ _ _ _ _ _ _;rw [List.flatMap_append];simpa [csP] using this,g1,g2,HI.out _ _ _ _ _ HII.out HS.out,g3,h4,g4⟩
      case measure=>simp [intOf];omega
    ·have hkn:k=n:=by omega
     subst hkn
     have HTS:Hid (ts.length=k):=HM.out.2.1
     go_wp2_with fail
     go_ret
     rw [HT.out,HM.out.done]
     refine ⟨a,c,ts,x,fp',?_,?_,HJ1.out,HKP.out,HFP.out,HAB.out,rfl,rfl,HRD.out⟩
     ·rw [HTS.out];rfl
     ·rw [HTS.out];exact HOW.out
  ·have HT:Hid (listP m step x0 l=none):=by show _=_;unfold listP;rw [HF.out];simp [hle]
   have hlt:((s.length:Int) - p'<n):=by omega
   clear hle hp1
   go_wp2_with (first | (go_at_call 122;refine (rd_dead0 H1.out).mono ?_;rintro e w' ⟨rfl,rfl⟩) | (go_at_call 124;refine (rd_left _ _ _ _ _ H1.out hs' hp1').mono ?_;rintro e w' ⟨rfl,nq,rfl⟩) | (go_at_call 125;refine (rd_fail _ _ _ _ _ _ _ (Blk.drewN H1.out _)).mono ?_;rintro e w' ⟨rfl,hk2,hr2⟩;have HK2:=Lib.hid hk2;have HR2:=Lib.hid hr2;clear hk2 hr2))
   go_ret
   rw [HT.out]
   have hkk:=(HK.out.drewN _).trans HK2.out
   exact ⟨none,0,[],x0,fp,rfl,Own.nil _ _ _,HST.out.kp HJ.out hkk (fun g hg=>by have:=(HST.out.lt HJ.out g hg).2;simp [this]),hkk.mono (fun k _ hk=>by simp at hk;simp [hk]),fun g hg=>.inl hg,by simp [ab],rfl,HR2.out.bad (by decide) hp'⟩

end Go.Proofs.YtcaggadjkccbiaaGreat