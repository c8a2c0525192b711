/- The reader's methods on any reader, well or not; a pair is read. -/
import Derived.Test.YtcaggadjkccbiaaGreatZ19
import Derived.Test.YtcaggadjkccbiaaGreatZ18
namespace Go.Proofs.YtcaggadjkccbiaaGreat
set_option maxHeartbeats 1000000
set_option maxRecDepth 100000
set_option linter.unusedVariables false
set_option linter.unusedSimpArgs false
open Go Go.RowKit

def RdSt (w:World) (b:Nat) (s:Bs):Option Bs→Prop
 | some l=>RdOk w b s l
 | none=>RdBad w b s
theorem RdSt.kp {S:List Nat} {w w':World} {b:Nat} {s:Bs} {o:Option Bs} (h:RdSt w b s o) (k:Kp S w w') (hs:b ∉ S):RdSt w' b s o:=by
 cases o
 ·exact RdBad.kp h k hs
 ·exact RdOk.kp h k hs
theorem RdSt.lt {w:World} {b:Nat} {s:Bs} {o:Option Bs} (h:RdSt w b s o):b<w.heap.size:=by
 cases o
 ·exact RdBad.lt h
 ·exact RdOk.lt h

def gotV {T:Type} (p:Bs→Option (T×Bs)) (z:T) (o:Option Bs):T:=((o.bind p).map (·.1)).getD z
def gotR {T:Type} (p:Bs→Option (T×Bs)) (o:Option Bs):Option Bs:=(o.bind p).map (·.2)

def RdPost {T:Type} (tv:T→Value) (p:Bs→Option (T×Bs)) (z:T) (b:Nat) (s:Bs) (o:Option Bs) (w:World) (e:Ending) (w':World):Prop:=
 e=.returned (tv (gotV p z o))∧Kp [b] w w'∧RdSt w' b s (gotR p o)

theorem text_all (b m:Nat) (s:Bs) (o:Option Bs) (w:World) (h:RdSt w b s o) (hs:s.length≤140737488351232) (hm0:0<m) (hm:m≤9223372036854775807) :
  Calls Tryz.prog 88 #[.pointer (some ⟨b,0,none⟩),.int .i64 m] w (RdPost (fun t:Bs=>.string ⟨t.toArray⟩) (textP m) [] b s o w):=by
 cases o with
 | none=>exact (rd_text_bad b s m w h).mono fun e w' ⟨h1,h2⟩=>by subst h2;exact ⟨h1,Kp.refl _ _,h⟩
 | some l=>
  refine (rd_text b m s l w h hs hm0 hm).mono fun e w' h1=>?_
  unfold StrPost at h1
  split at h1 <;> (rename_i hp;exact ⟨by simpa [gotV,hp] using h1.1,h1.2.1,by unfold gotR;simp only [hp,Option.bind_some,Option.map_some,Option.map_none];exact h1.2.2⟩)
theorem u32_all (b:Nat) (s:Bs) (o:Option Bs) (w:World) (h:RdSt w b s o) (hs:s.length≤140737488351232) :
  Calls Tryz.prog 139 #[.pointer (some ⟨b,0,none⟩)] w (RdPost (fun n:Nat=>.int .u32 (n:Int)) (takeP 4) 0 b s o w):=by
 cases o with
 | none=>exact (take_bad_uint32 b s w h).mono fun e w' ⟨h1,h2⟩=>by subst h2;exact ⟨h1,Kp.refl _ _,h⟩
 | some l=>
  refine (take_uint32 b s l w h hs).mono fun e w' h1=>?_
  unfold TakePostuint32 at h1
  split at h1 <;> (rename_i hp;exact ⟨by simpa [gotV,hp] using h1.1,h1.2.1,by unfold gotR;simp only [hp,Option.bind_some,Option.map_some,Option.map_none];exact h1.2.2⟩)
theorem u8_all (b:Nat) (s:Bs) (o:Option Bs) (w:World) (h:RdSt w b s o) (hs:s.length≤140737488351232) :
  Calls Tryz.prog 133 #[.pointer (some ⟨b,0,none⟩)] w (RdPost (fun n:Nat=>.int .u8 (n:Int)) (takeP 1) 0 b s o w):=by
 cases o with
 | none=>exact (take_bad_uint8 b s w h).mono fun e w' ⟨h1,h2⟩=>by subst h2;exact ⟨h1,Kp.refl _ _,h⟩
 | some l=>
  refine (take_uint8 b s l w h hs).mono fun e w' h1=>?_
  unfold TakePostuint8 at h1
  split at h1 <;> (rename_i hp;exact ⟨by simpa [gotV,hp] using h1.1,h1.2.1,by unfold gotR;simp only [hp,Option.bind_some,Option.map_some,Option.map_none];exact h1.2.2⟩)
def dgP (n:Nat) (l:Bs):Option (Dg×Bs):=(rawP n l).map fun r=>(Dg.pad r.1,r.2)
theorem dg_all (b n:Nat) (s:Bs) (o:Option Bs) (w:World) (h:RdSt w b s o) (hs:s.length≤140737488351232) (hn:n≤32) :
  Calls Tryz.prog 140 #[.pointer (some ⟨b,0,none⟩),.int .i64 n] w (RdPost (fun d:Dg=>.agg d.c) (dgP n) Dg.zero b s o w):=by
 cases o with
 | none=>exact (rd_digest_bad b n s w h hn).mono fun e w' ⟨h1,h2⟩=>⟨h1,h2.of_nil,RdBad.kp h h2 (by simp)⟩
 | some l=>
  refine (rd_digest b n s l w h hs hn).mono fun e w' h1=>?_
  unfold DgPost at h1
  split at h1 <;> (rename_i hp;exact ⟨by simpa [gotV,dgP,hp] using h1.1,h1.2.1,by unfold gotR;simp only [dgP,hp,Option.bind_some,Option.map_some,Option.map_none];exact h1.2.2⟩)

def isRow:TypeDesc→Bool
 | .struct _ | .array _ _=>true
 | _=>false
theorem row_ret {fn:Func} {R:Ending→World→Prop} {a:Act} {w:World} {p:Tmp} {ty:TypeId} {d:TypeDesc} (g:Nat) {t:TypeId} {cs:Array Value} (hr:fn.results=#[.cell p ty]) (hu:Tryz.prog.underlying ty=some d) (hd:isRow d=true) (hi:(Tryz.prog.info? ty).map (·.size)=some cs.size)
  (hp:a.tmps.getD p undef=.pointer (some ⟨g,0,none⟩)) (hg:Blk w g t cs) (hdf:a.defers=[]) (hR:R (.returned (.agg cs)) w):bodyPost Tryz.prog fn R .ret a w:=
 bodyPost_ret (results_cell_row hr a.tmps w g t cs (0,0) _ hp hg hu (by cases d <;> first | rfl | cases hd) hi) hdf hR

def pairP (P:Nat) (_:Unit) (l:Bs):Option (Unit×Pr×Bs):=
 match textP (P / 16) l with
 | none=>none
 | some (k,l1)=>match textP (P / 8) l1 with
  | none=>none
  | some (v,l2)=>some ((),(k,v),l2)

theorem pairP_got {P:Nat} {l:Bs} {w:World} {b:Nat} {s v1 v2:Bs} (h1:gotV (textP (P / 16)) [] (some l)=v1) (h2:gotV (textP (P / 8)) [] (gotR (textP (P / 16)) (some l))=v2)
  (h:RdSt w b s (gotR (textP (P / 8)) (gotR (textP (P / 16)) (some l)))) :
  match pairP P () l with | some (x1,t1,l')=>()=x1∧(v1,v2)=t1∧RdOk w b s l' | none=>RdBad w b s:=by
 unfold pairP
 cases ht:textP (P / 16) l with
 | none=>simpa [gotR,ht,RdSt] using h
 | some r=>
  simp only [gotV,gotR,Option.bind_some,ht,Option.map_some,Option.getD_some] at h1 h2 h
  cases ht2:textP (P / 8) r.2 with
  | none=>simp only [ht2,Option.map_none] at h ⊢;exact h
  | some r2=>simp only [ht2,Option.map_some,Option.getD_some] at h h2 ⊢;exact ⟨trivial,by rw [h1,h2],h⟩

def JP (fb P:Nat) (wd:Int) (_:Unit) (w:World) (fp:List Nat):Prop:=fp=[fb]∧Blk w fb 24 #[.int .i64 P,.int .i64 wd]
theorem JP.st (b fb P:Nat) (wd:Int) (hne:fb≠b):St b (JP fb P wd) where
 kp:=fun {x w w' fp S} ⟨h1,h2⟩ k hs=>⟨h1,h2.kp k (hs fb (by simp [h1]))⟩
 lt:=fun {x w fp} ⟨h1,h2⟩ g hg=>by subst h1;simp at hg;subst hg;exact ⟨h2.lt,hne⟩

theorem one_pair (b fb P:Nat) (wd:Int) (s l:Bs) (w:World) (hs:s.length≤140737488351232) (hP0:1024≤P) (hP:P≤8192) (hne:fb≠b) (h:RdOk w b s l) (hf:Blk w fb 24 #[.int .i64 P,.int .i64 wd]) :
  Calls Tryz.prog 135 #[.pointer (some ⟨b,0,none⟩),.pointer (some ⟨fb,0,none⟩)] w (OnePost tvP (JP fb P wd) b s [fb] w (pairP P () l)):=by
 have h16:(P:Int) / 16=((P / 16:Nat):Int):=by omega
 have h8:(P:Int) / 8=((P / 8:Nat):Int):=by omega
 have H16:=Lib.hid h16;have H8:=Lib.hid h8
 have H:Hid (RdSt w b s (some l)):=h
 have hbl:=h.lt
 have HF:=Lib.hid hf
 have f0:=hf.cell 0
 have f1:=hf.cell 1
 have hfl:=hf.lt
 simp only [List.getElem?_toArray,List.getElem?_cons_zero,List.getElem?_cons_succ] at f0 f1
 clear h hf h16 h8
 go_enter Tryz.func135,Tryz.ntmps135
 go_wp2_with fail
 refine (maxKey_any _ _ _ (by omega) (by omega)).mono ?_
 rintro e w' ⟨rfl,bs1,n1,rfl⟩
 rw [H16.out]
 go_wp2_with fail
 refine (text_all b (P / 16) s _ _ (H.out.kp (((Kp.refl [] _).alloc _).ext _ _) (by simp)) hs (by omega) (by omega)).mono ?_
 rintro e w1 ⟨rfl,k1,r1⟩
 have hblk:=(Blk.alloc HF.out (.cells #[.string ⟨#[]⟩,.string ⟨#[]⟩] 73)).kp ((Kp.refl [] _).ext bs1 n1) (by simp)
 have hbf:=hblk.kp k1 (by simp;exact hne)
 have hrb:=(((Blk.new w 73 #[.string ⟨#[]⟩,.string ⟨#[]⟩]).kp ((Kp.refl [] _).ext bs1 n1) (by simp)).kp k1 (by simp;omega))
 have g0:=hbf.cell 0
 have g1:=hbf.cell 1
 have y0:=hrb.cell 0
 have y1:=hrb.cell 1
 have z0:=hrb.frozen 0
 have z1:=hrb.frozen 1
 simp only [List.getElem?_toArray,List.getElem?_cons_zero,List.getElem?_cons_succ] at g0 g1 y0 y1
 have hsz:=k1.size
 simp only [ext_size,World.size_alloc] at hsz
 obtain ⟨v1,hv1⟩:∃ v,gotV (textP (P / 16)) [] (some l)=v:=⟨_,rfl⟩
 rw [hv1]
 have HV1:=Lib.hid hv1;have K1:=Lib.hid k1;have R1:=Lib.hid r1;have HBF:=Lib.hid hbf;have HRB:=Lib.hid hrb
 clear hv1 k1 r1 hblk hbf hrb
 go_wp2_with fail
 refine (maxVal_any _ _ _ (by omega) (by omega)).mono ?_
 rintro e w' ⟨rfl,bs2,n2,rfl⟩
 rw [H8.out]
 go_wp2_with fail
 refine (text_all b (P / 8) s _ _ (R1.out.kp ((Kp.refl [] _).ext _ _) (by simp)) hs (by omega) (by omega)).mono ?_
 rintro e w2 ⟨rfl,k2,r2⟩
 obtain ⟨v2,hv2⟩:∃ v,gotV (textP (P / 8)) [] (gotR (textP (P / 16)) (some l))=v:=⟨_,rfl⟩
 rw [hv2]
 have hrb:=(Blk.kp HRB.out ((Kp.refl [] _).ext bs2 n2) (by simp)).kp k2 (by simp;omega)
 have y2:=hrb.cell 0
 have y3:=hrb.cell 1
 have z2:=hrb.frozen 0
 have z3:=hrb.frozen 1
 simp only [List.getElem?_toArray,List.getElem?_cons_zero,List.getElem?_cons_succ] at y2 y3
 have HV2:=Lib.hid hv2;have K2:=Lib.hid k2;have R2:=Lib.hid r2
 clear hv2 k2 r2 hrb
 go_wp2_with fail
 have hfin:=((HRB.out.kp ((Kp.refl [] _).ext bs2 n2) (by simp)).kp K2.out (by simp;omega)).set 0 (.string ⟨v1.toArray⟩)
 have hfin:=hfin.set 1 (.string ⟨v2.toArray⟩)
 simp at hfin
 have k3:Kp [w.heap.size] w2 ((w2.setCell ⟨w.heap.size,0,none⟩ (.string ⟨v1.toArray⟩)).setCell ⟨w.heap.size,1,none⟩ (.string ⟨v2.toArray⟩)):=((Kp.refl [w.heap.size] _).setCell _ (.inr (by simp))).setCell _ (.inr (by simp))
 refine row_ret w.heap.size rfl Tryz.underlying73 rfl (by kernel_rfl) rfl hfin rfl ⟨(v1,v2),(),[fb],rfl,⟨rfl,?_⟩,?_,fun g hg=>.inl hg,by have:=pairP_got HV1.out HV2.out (R2.out.kp k3 (by simp;omega));revert this;cases pairP P () l <;> exact id⟩
 ·exact ((HBF.out.kp ((Kp.refl [] _).ext bs2 n2) (by simp)).kp K2.out (by simp;exact hne)).kp k3 (by simp;omega)
 ·refine Kp.from (T:=[w.heap.size]) ?_ k3 (by simp)
  exact ((((((Kp.refl [b,fb] _).alloc _).ext _ _).trans (K1.out.mono (fun k _ hk=>by simp at hk;simp [hk]))).ext _ _).trans (K2.out.mono (fun k _ hk=>by simp at hk;simp [hk])))


abbrev tvK (x:Kd):Value:=.agg x.c
abbrev csK (x:Kd):List Value:=x.c.toList

theorem list_kid {α:Type} {step:α→Bs→Option (α×Kd×Bs)} {J:α→World→List Nat→Prop} {I:α→Bs→Prop} (b m:Nat) (s l:Bs) (x0:α) (fp:List Nat) (caps:Array Value) (w:World)
  (hst:St b J) (hI0:∀ n l',freeP m l=some (n,l')→I x0 l') (hI:∀ x l x' t l',I x l→step x l=some (x',t,l')→I x' l') (hone:∀ x l fp w,I x l→RdOk w b s l→J x w fp→Calls Tryz.prog 138 (#[.pointer (some ⟨b,0,none⟩)]++caps) w (OnePost tvK J b s fp w (step x l)))
  (h:RdOk w b s l) (hj:J x0 w fp) (hs:s.length≤3909374676453) (hm0:0<m) (hm:m≤9223372036854775807) :
  Calls Tryz.prog 137 #[.pointer (some ⟨b,0,none⟩),.int .i64 m,.func (.func 138) #[] caps] w (ListPost csK 150 33 J b s fp w (listP m step x0 l)):=by
 have hm':m<18446744073709551616:=by omega
 have hs':s.length≤140737488351232:=by omega
 have HO:=Lib.hid h;have HST:=Lib.hid hst;have HONE:=Lib.hid hone;have HJ:=Lib.hid hj;have HI0:=Lib.hid hI0;have HI:=Lib.hid hI;clear hst hone hj hI0 hI
 obtain ⟨p,hp,hl,h⟩:=h
 obtain ⟨c0,c1,c2,c3⟩:=h.cells
 have H:=Lib.hid h;clear h hl
 have hp':p≤s.length:=by omega
 clear hp
 rcases hf:freeP m l with _ | ⟨n,l0⟩
 ·have HF:=Lib.hid hf;clear hf
  have HT:Hid (listP m step x0 l=none):=by show _=_;unfold listP;rw [HF.out]
  go_enter Tryz.func137,Tryz.ntmps137
  go_wp2_with (first | (go_at_call 122;refine (rd_dead0 H.out).mono ?_;rintro e w' ⟨rfl,rfl⟩))
  refine (rd_free _ _ _ _ _ HO.out hs' hm').mono ?_
  rintro e w1 h1
  rw [HF.out] at h1
  obtain ⟨rfl,hk1,hr1⟩:=h1
  have HR:=Lib.hid hr1;have HK:=Lib.hid hk1;clear hk1
  obtain ⟨p',f',hf',hp1,hr1⟩:=hr1
  have H1:=Lib.hid hr1;have HF1:=Lib.hid hf';clear hr1 hf'
  go_wp2_with (first | (go_at_call 122;refine (rd_dead1 H1.out HF1.out).mono ?_;rintro e w' ⟨rfl,rfl⟩))
  go_ret
  rw [HT.out]
  exact ⟨none,0,[],x0,fp,rfl,Own.nil _ _ _,HST.out.kp HJ.out HK.out (fun g hg=>by have:=(HST.out.lt HJ.out g hg).2;simp [this]),HK.out.mono (fun k _ hk=>by simp at hk;simp [hk]),fun g hg=>.inl hg,by simp [ab],rfl,HR.out⟩
 ·have HF:=Lib.hid hf
  obtain ⟨hsuf,hlen,hnm⟩:=freeP_rest hf
  clear hf hsuf
  go_enter Tryz.func137,Tryz.ntmps137
  go_wp2_with (first | (go_at_call 122;refine (rd_dead0 H.out).mono ?_;rintro e w' ⟨rfl,rfl⟩))
  refine (rd_free _ _ _ _ _ HO.out hs' hm').mono ?_
  rintro e w1 h1
  rw [HF.out] at h1
  obtain ⟨rfl,hk1,hr1⟩:=h1
  have HR:=Lib.hid hr1;have HK:=Lib.hid hk1;clear hk1
  obtain ⟨p',hp1,hl1,hr1⟩:=hr1
  have H1:=Lib.hid hr1;clear hr1 hl1
  have hp1':p'≤s.length:=by omega
  by_cases hle:n≤l0.length
  ·have HT:Hid (listP m step x0 l=manyP step n x0 l0):=by show _=_;unfold listP;rw [HF.out];simp [hle]
   have hlt:¬ ((s.length:Int) - p'<n):=by omega
   have hns:n≤3909374676453:=by omega
   clear hle hlen hp1 hnm hp'
   go_wp2_with (first | (go_at_call 122;refine (rd_dead0 H1.out).mono ?_;rintro e w' ⟨rfl,rfl⟩) | (go_at_call 124;refine (rd_left _ _ _ _ _ H1.out hs' hp1').mono ?_;rintro e w' ⟨rfl,nq,rfl⟩))
   go_loopw [9,10,33] (fun v _ i wr=>∃ (k c:Nat) (a:Option Addr) (ts:List Kd) (x:α) (fp':List Nat) (l':Bs),i=.int .u64 (k:Nat)∧v=.slice a k c∧k≤n∧Hid (Mid step n x0 l0 k x ts l')∧Hid (Own wr 150 33 a k c (ts.flatMap csK))∧Hid (J x wr fp')∧Hid (RdOk wr b s l')∧Hid (I x l')∧Hid (Kp (b::fp) w wr)∧Hid (∀ g∈fp',g∈fp∨w.heap.size≤g)∧Hid (∀ g∈ab a,w.heap.size≤g∧g ∉ fp')) (fun _ _ i _=>n - (intOf i).toNat)
   case atStart=>exact ⟨0,0,none,[],x0,fp,l0,rfl,rfl,Nat.zero_le _,Mid.start _ _ _ _,Own.nil _ _ _,HST.out.kp HJ.out (HK.out.drewN _) (fun g hg=>by have:=(HST.out.lt HJ.out g hg).2;simp [this]),HR.out.kp ((Kp.refl [] _).drewN _) (by simp),HI0.out _ _ HF.out,(HK.out.drewN _).mono (fun k _ hk=>by simp at hk;simp [hk]),fun g hg=>.inl hg,by simp [Hid,ab]⟩
   case round=>
    obtain ⟨k,c,a,ts,x,fp',l',rfl,rfl,hk,HM,HOW,HJ1,HRD,HII,HKP,HFP,HAB⟩:=hrel
    by_cases hlt2:k<n
    ·rcases hstep:step x l' with _ | ⟨x1,t1,l1⟩
     ·have HS:=Lib.hid hstep;clear hstep
      go_wp2_with fail
      refine (HONE.out _ _ _ _ HII.out (HRD.out.kp ((Kp.refl [] _).alloc _) (by simp)) (HST.out.kp HJ1.out ((Kp.refl [] _).alloc _) (by simp))).mono ?_
      rintro e w2 ⟨t,x2,fp2,rfl,hj2,k2,hf2,hr2⟩
      rw [HS.out] at hr2
      have HJ2:=Lib.hid hj2;have K2:=Lib.hid k2;have HF2:=Lib.hid hf2
      have hnb:wr.heap.size ∉ b::fp':=by
       have h1:=HRD.out.lt
       simp only [List.mem_cons,not_or]
       exact ⟨by omega,fun h=>by have:=(HST.out.lt HJ1.out _ h).1;omega⟩
      have hbx:=(Blk.new wr 150 Kd.zero.c).kp k2 hnb
      have HBX:=Lib.hid hbx
      have hx0:=k2.size
      simp only [World.size_alloc] at hx0
      have x0:=own?_blk hbx
      clear hj2 k2 hf2 hnb hbx
      have hbw:=HRD.out.lt
      obtain ⟨pb,fb,hf',hpb,hr2⟩:=hr2
      have HR2:=Lib.hid hr2;have HFB:=Lib.hid hf';clear hr2 hf'
      go_wp2_with (first | (go_at_call 122;refine (rd_dead1 (Blk.kp HR2.out ((Kp.refl [wr.heap.size] w2).setRow wr.heap.size _ (by simp)) (by simp;omega)) HFB.out).mono ?_;rintro e w' ⟨rfl,rfl⟩))
      go_ret
      rw [HT.out,HM.out.fail hlt2 HS.out]
      obtain ⟨-,h2,h3,h4,-,-⟩:=list_round HST.out HO.out.lt HOW.out HKP.out HJ1.out HFP.out HAB.out K2.out HJ2.out HF2.out ((Kp.refl [wr.heap.size] w2).setRow wr.heap.size _ (by simp))
      exact ⟨none,0,[],_,fp2,rfl,Own.nil _ _ _,h2,h3,h4,by simp [ab],rfl,_,_,HFB.out,hpb,Blk.kp HR2.out ((Kp.refl [wr.heap.size] w2).setRow wr.heap.size _ (by simp)) (by simp;omega)⟩
     ·have HS:=Lib.hid hstep;clear hstep
      go_wp2_with fail
      refine (HONE.out _ _ _ _ HII.out (HRD.out.kp ((Kp.refl [] _).alloc _) (by simp)) (HST.out.kp HJ1.out ((Kp.refl [] _).alloc _) (by simp))).mono ?_
      rintro e w2 ⟨t,x2,fp2,rfl,hj2,k2,hf2,hr2⟩
      rw [HS.out] at hr2
      obtain ⟨rfl,rfl,hr2⟩:=hr2
      have HJ2:=Lib.hid hj2;have K2:=Lib.hid k2;have HF2:=Lib.hid hf2;have HRO:=Lib.hid hr2
      have hnb:wr.heap.size ∉ b::fp':=by
       have h1:=HRD.out.lt
       simp only [List.mem_cons,not_or]
       exact ⟨by omega,fun h=>by have:=(HST.out.lt HJ1.out _ h).1;omega⟩
      have hbx:=(Blk.new wr 150 Kd.zero.c).kp k2 hnb
      have HBX:=Lib.hid hbx
      have hx0:=k2.size
      simp only [World.size_alloc] at hx0
      have x0:=own?_blk hbx
      clear hj2 k2 hf2 hnb hbx
      have hbw:=HRD.out.lt
      obtain ⟨pb,hpb,-,hr2⟩:=hr2
      have HR2:=Lib.hid hr2;clear hr2
      have HX:=Lib.hid (fun (w3:World) (k3:Kp [wr.heap.size] w2 w3)=>list_round HST.out HO.out.lt HOW.out HKP.out HJ1.out HFP.out HAB.out K2.out HJ2.out HF2.out k3)
      go_wp2_with (first | (go_at_call 122;refine (rd_dead0 (Blk.kp HR2.out ((Kp.refl [wr.heap.size] w2).setRow wr.heap.size _ (by simp)) (by simp;omega))).mono ?_;rintro e w' ⟨rfl,rfl⟩) | (at_builtin;refine wpList_app_kid rfl rfl rfl (HX.out _ (((Kp.refl [wr.heap.size] w2).setRow wr.heap.size _ (by simp)).alloc _)).1 1 _ (src_row Tryz.underlying85 _ _ _ _ (by simp) (Kd.c_size _) (Kd.c_one _)) (by omega) ?_;intro a2 c2 w4 hown hk4 hn4;have HO4:=Lib.hid hown;have HK4:=Lib.hid hk4;have HN4:=Lib.hid hn4;clear hown hk4 hn4))
      obtain ⟨h1,h2,h3,h4,h5,h6⟩:=HX.out _ (((Kp.refl [wr.heap.size] w2).setRow wr.heap.size _ (by simp)).alloc (.cells t.c 150))
      obtain ⟨g1,g2,g3,g4⟩:=list_round2 HST.out h1 h2 h3 h5 h6 (HRO.out.kp (((Kp.refl [wr.heap.size] w2).setRow wr.heap.size _ (by simp)).alloc (.cells t.c 150)) (by simp;omega)) HK4.out HN4.out
      go_roundw
      case rel=>exact ⟨k+1,c2,a2,ts++[t],x2,fp2,l1,by go_num,rfl,by omega,HM.out.step hlt2 HS.out,by have:=HO4.out;show Own _ _ _ _ _ _ _;rw [List.flatMap_append];simpa [csK] using this,g1,g2,HI.out _ _ _ _ _ HII.out HS.out,g3,h4,g4⟩
      case measure=>simp [intOf];omega
    ·have hkn:k=n:=by omega
     subst hkn
     have HTS:Hid (ts.length=k):=HM.out.2.1
     go_wp2_with fail
     go_ret
     rw [HT.out,HM.out.done]
     refine ⟨a,c,ts,x,fp',?_,?_,HJ1.out,HKP.out,HFP.out,HAB.out,rfl,rfl,HRD.out⟩
     ·rw [HTS.out];rfl
     ·rw [HTS.out];exact HOW.out
  ·have HT:Hid (listP m step x0 l=none):=by show _=_;unfold listP;rw [HF.out];simp [hle]
   have hlt:((s.length:Int) - p'<n):=by omega
   clear hle hp1
   go_wp2_with (first | (go_at_call 122;refine (rd_dead0 H1.out).mono ?_;rintro e w' ⟨rfl,rfl⟩) | (go_at_call 124;refine (rd_left _ _ _ _ _ H1.out hs' hp1').mono ?_;rintro e w' ⟨rfl,nq,rfl⟩) | (go_at_call 125;refine (rd_fail _ _ _ _ _ _ _ (Blk.drewN H1.out _)).mono ?_;rintro e w' ⟨rfl,hk2,hr2⟩;have HK2:=Lib.hid hk2;have HR2:=Lib.hid hr2;clear hk2 hr2))
   go_ret
   rw [HT.out]
   have hkk:=(HK.out.drewN _).trans HK2.out
   exact ⟨none,0,[],x0,fp,rfl,Own.nil _ _ _,HST.out.kp HJ.out hkk (fun g hg=>by have:=(HST.out.lt HJ.out g hg).2;simp [this]),hkk.mono (fun k _ hk=>by simp at hk;simp [hk]),fun g hg=>.inl hg,by simp [ab],rfl,HR2.out.bad (by decide) hp'⟩

end Go.Proofs.YtcaggadjkccbiaaGreat