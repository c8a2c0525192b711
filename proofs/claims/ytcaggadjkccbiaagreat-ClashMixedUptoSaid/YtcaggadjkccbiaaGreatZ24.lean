/- A branch's form is laid. -/
import Derived.Test.YtcaggadjkccbiaaGreatZ17
namespace Go.Proofs.YtcaggadjkccbiaaGreat
set_option maxHeartbeats 1000000
set_option maxRecDepth 100000
set_option linter.unusedVariables false
set_option linter.unusedSimpArgs false
open Go Go.RowKit

def Foreign (b wb:Nat) (a:Option Addr):Prop:=b≠wb∧b ∉ ab a
theorem Foreign.next {b wb:Nat} {a a':Option Addr} {w w':World} (h:Foreign b wb a) (k:WK wb a w a' w') (hb:b<w.heap.size):Foreign b wb a':=
 ⟨h.1,fun e=>by rcases k.new b e with h1 | h1;exact h.2 h1;omega⟩
theorem Foreign.not {b wb:Nat} {a:Option Addr} (h:Foreign b wb a):b ∉ wb::ab a:=by simp [h.1,h.2]
theorem Foreign.new {w:World} {wb c:Nat} {a:Option Addr} {out:Bs} (h:Wr w wb a c out) {b:Nat} (hb:w.heap.size≤b):Foreign b wb a:=
 ⟨fun e=>by have:=h.blk.lt;omega,fun e=>by have:=h.own.lt b e;omega⟩
theorem Foreign.at {w w1:World} {o:Obj} {wb c:Nat} {a a1:Option Addr} {out:Bs} (h:Wr w wb a c out) (k:WK wb a (w.alloc o) a1 w1):Foreign w.heap.size wb a1:=
 ⟨fun e=>by have:=h.blk.lt;omega,fun e=>by
  rcases k.new _ e with h3 | h3
  ·have:=h.own.lt _ h3;omega
  ·rw [World.size_alloc] at h3;omega⟩
theorem WK.cell {wb:Nat} {a a':Option Addr} {w w':World} (k:WK wb a w a' w') {b o:Nat} {v:Value} (hc:w.cell? ⟨b,o,none⟩=some v) (h:Foreign b wb a):w'.cell? ⟨b,o,none⟩=some v:=k.kp.cell hc h.not
theorem WK.blk' {wb:Nat} {a a':Option Addr} {w w':World} (k:WK wb a w a' w') {b:Nat} {t:TypeId} {cs:Array Value} (hc:Blk w b t cs) (h:Foreign b wb a):Blk w' b t cs:=hc.kp k.kp h.not
theorem WK.row {wb:Nat} {a a':Option Addr} {w w':World} (k:WK wb a w a' w') {b o n:Nat} {cs:Array Value} (hc:rowAt? w ⟨b,o,none⟩ n=some cs) (h:Foreign b wb a):rowAt? w' ⟨b,o,none⟩ n=some cs:=rowAt?_kp k.kp hc h.not

structure WKc (cb wb:Nat) (a:Option Addr) (w:World) (a':Option Addr) (w':World):Prop where
 kp:Kp (cb::wb::ab a) w w'
 new:∀ g∈ab a',g∈ab a∨w.heap.size≤g
theorem WK.c {wb:Nat} {a a':Option Addr} {w w':World} (k:WK wb a w a' w') (cb:Nat):WKc cb wb a w a' w':=⟨k.kp.mono (fun _ _ h=>List.mem_cons_of_mem _ h),k.new⟩
theorem WKc.refl (cb wb:Nat) (a:Option Addr) (w:World):WKc cb wb a w a w:=(WK.refl wb a w).c cb
theorem WKc.trans {cb wb : Nat} {a a1 a2 : Option Addr} {w w1 w2 : World} (h : WKc cb wb a w a1 w1) (k : WKc cb wb a1 w1 a2 w2) : WKc cb wb a w a2 w2 :=
  ⟨h.kp.from k.kp (fun x hx => by
    rcases List.mem_cons.1 hx with rfl | hx
    · exact .inr (by simp)
    rcases List.mem_cons.1 hx with rfl | hx
    · exact .inr (by simp)
    · rcases h.new x hx with h1 | h1
      · exact .inr (by simp [h1])
      · exact .inl h1),
   fun g hg => by
    rcases k.new g hg with h1 | h1
    · exact h.new g h1
    · exact .inr (Nat.le_trans h.kp.size h1)⟩
theorem WKc.pre {cb wb:Nat} {a a2:Option Addr} {w w1 w2:World} (h:Kp [] w w1) (k:WKc cb wb a w1 a2 w2):WKc cb wb a w a2 w2:=(WKc.trans ⟨h.of_nil,fun _ h=>.inl h⟩ k)
theorem WKc.put {cb wb:Nat} {a a2:Option Addr} {w w1:World} (k:WKc cb wb a w a2 w1) (o:Nat) (v:Value):WKc cb wb a w a2 (w1.setCell ⟨cb,o,none⟩ v):=
 k.trans ⟨(Kp.refl _ _).setCell _ (.inr (by simp)),fun _ h=>.inl h⟩
theorem Foreign.nextc {b cb wb:Nat} {a a':Option Addr} {w w':World} (h:Foreign b wb a) (k:WKc cb wb a w a' w') (hb:b<w.heap.size):Foreign b wb a':=
 ⟨h.1,fun e=>by rcases k.new b e with h1 | h1;exact h.2 h1;omega⟩

def kidB (pages:Bool) (wd:Nat) (n:Nd) (i:Nat) (k:Kd):Bs:=
 (if 0<i then textB (n.seps.getD (i - 1) []) else [])++((if pages=true then fixB 4 k.page else [])++k.sum.l.take wd)

def Form2Post (cb wb:Nat) (a:Option Addr) (w:World) (i:Int) (out:Bs) (e:Ending) (w':World):Prop:=
 e=.returned (.tuple #[])∧∃ a' c',Wr w' wb a' c' out∧WKc cb wb a w a' w'∧Blk w' cb 3 #[.int .i64 i]

theorem Wr.cset {w:World} {wb c:Nat} {a:Option Addr} {out:Bs} (h:Wr w wb a c out) {cb:Nat} (hc:Foreign cb wb a) (o:Nat) (v:Value):Wr (w.setCell ⟨cb,o,none⟩ v) wb a c out:=
 h.kp (S:=[cb]) ((Kp.refl _ _).setCell _ (.inr (by simp))) (by simp;exact fun e=>hc.1 e.symm) (fun g hg=>by simp;rintro rfl;exact hc.2 hg)

@[go_sem] theorem rowAt?_setCell_if (w:World) (g i g' o n:Nat) (v:Value):rowAt? (w.setCell ⟨g,i,none⟩ v) ⟨g',o,none⟩ n=if g'=g then slowRow (w.setCell ⟨g,i,none⟩ v) ⟨g',o,none⟩ n else rowAt? w ⟨g',o,none⟩ n:=by
 split
 ·rfl
 ·rename_i h
  unfold rowAt?;rw [Below.heap_setCell _ _ _ _ h]

theorem form2_any (wb c cb nb pb fb P wd i:Nat) (pa sa ka a:Option Addr) (pc sc kc:Nat) (pages:Bool) (out:Bs) (n:Nd) (k:Kd) (w:World)
  (h:Wr w wb a c out) (hcb:Blk w cb 3 #[.int .i64 i]) (hfc:Foreign cb wb a)
  (hnb:w.cell? ⟨nb,1,none⟩=some (.slice sa n.seps.length sc))
  (hpb:w.cell? ⟨pb,0,none⟩=some (.bool pages)) (hfp:Foreign pb wb a) (hpc:pb≠cb)
  (hfb:w.cell? ⟨fb,1,none⟩=some (.int .i64 wd)) (hff:Foreign fb wb a) (hfbc:fb≠cb)
  (hpl:pb<w.heap.size) (hfl:fb<w.heap.size) (hnl:nb<w.heap.size)
  (hss:SsAt w sa n.seps) (hi:i≤n.seps.length) (hns:n.seps.length≤8796093022208) (hk:k.page<4294967296) (hwd:wd≤32) (ho:out.length+(kidB pages wd n i k).length≤70368744177000) :
  Calls Tryz.prog 184 #[.pointer (some ⟨wb,0,none⟩),.agg k.c,.pointer (some ⟨cb,0,none⟩),.pointer (some ⟨nb,0,none⟩),.pointer (some ⟨pb,0,none⟩),.pointer (some ⟨fb,0,none⟩)] w
   (Form2Post cb wb a w (i+1:Nat) (out++kidB pages wd n i k)):=by
 have c0:=hcb.cell 0
 have f0:=hcb.frozen 0
 have hcl:=hcb.lt
 simp only [List.getElem?_toArray,List.getElem?_cons_zero] at c0
 by_cases h0:0<i
 ·obtain ⟨t,ht⟩:∃ t,n.seps[i - 1]?=some t:=⟨_,List.getElem?_eq_getElem (show i - 1<n.seps.length by omega)⟩
  obtain ⟨b,o,rfl,hb,cf1⟩:=hss (i - 1) t ht
  have hkb:kidB pages wd n i k=textB t++((if pages=true then fixB 4 k.page else [])++k.sum.l.take wd):=by
   simp only [kidB,h0,if_true,List.getD,ht,Option.getD_some]
  have hii:((i:Int) - 1).toNat=i - 1:=by omega
  have HK:=Lib.hid hkb;have H:=Lib.hid h;have HT:=Lib.hid ht;have HO:=Lib.hid ho
  have HFC:=Lib.hid hfc;have HFP:=Lib.hid hfp;have HFF:=Lib.hid hff;have HCB:=Lib.hid hcb
  have HP:=Lib.hid hpb;have HFB:=Lib.hid hfb
  clear hkb h ht ho hfc hfp hff hcb hss hpb hfb
  cases pages
  ·simp only [Bool.false_eq_true,if_false,List.nil_append] at HK
   go_enter Tryz.func184,Tryz.ntmps184
   go_wp2_with fail
   refine (wr_text _ _ _ _ t _ (H.out.kp0 ((Kp.refl [] _).alloc _)) (by have h1:=HO.out;rw [HK.out] at h1;have h2:t.length≤(textB t).length:=(by simp [textB]);simp only [List.length_append] at h1;omega)).mono ?_
   rintro e w1 ⟨rfl,a1,c1,h1,k1⟩
   have k1':=k1.pre ((Kp.refl [] w).alloc _)
   have c0':=k1'.cell c0 HFC.out
   have b0:=k1'.blk' HCB.out HFC.out
   have f0':=b0.frozen 0
   have p0:=k1'.cell HP.out HFP.out
   have q0:=k1'.cell HFB.out HFF.out
   have z1:=k1'.kp.size
   have kc0:w1.cell? ⟨w.heap.size,0,none⟩=some (.int .u32 (k.page:Int)):=k1.cell (by rw [World.cell?_alloc_new];exact Kd.get0 k) (Foreign.new H.out (Nat.le_refl _))
   have kc1:rowAt? w1 ⟨w.heap.size,1,none⟩ 32=some k.sum.c:=k1.row (by simp [go_sem]) (Foreign.new H.out (Nat.le_refl _))
   have G:=HFC.out.next k1' hcl
   have G0:Foreign w.heap.size wb a1:=Foreign.at H.out k1
   have Gf:=HFF.out.next k1' hfl
   have HW:=Lib.hid h1;have K1:=Lib.hid k1';have HG:=Lib.hid G;have HG0:=Lib.hid G0;have HGf:=Lib.hid Gf;have HB:=Lib.hid b0;clear h1 k1 k1' G G0 Gf b0
   go_wp2_with fail
   refine (wr_digest wb _ wd _ _ k.sum _ (HW.out.cset HG.out 0 _) hwd (by have h1:=HO.out;rw [HK.out] at h1;(try simp only [List.length_append,fixB_len] at h1);(try simp only [List.length_append,fixB_len]);omega)).mono ?_
   rintro e w3 ⟨rfl,a3,c3,h3,k3⟩
   have HW3:=Lib.hid h3;have K3:=Lib.hid k3;clear h3 k3
   go_wp2_with fail
   go_end0
   exact ⟨rfl,a3,c3,by rw [HK.out];simpa [List.append_assoc] using HW3.out,((K1.out.c cb).put 0 _).trans (K3.out.c cb),by have:=K3.out.blk' (HB.out.set 0 (.int .i64 ((i:Int)+1))) HG.out;simpa using this⟩
  ·simp only [if_true] at HK
   go_enter Tryz.func184,Tryz.ntmps184
   go_wp2_with fail
   refine (wr_text _ _ _ _ t _ (H.out.kp0 ((Kp.refl [] _).alloc _)) (by have h1:=HO.out;rw [HK.out] at h1;have h2:t.length≤(textB t).length:=(by simp [textB]);simp only [List.length_append] at h1;omega)).mono ?_
   rintro e w1 ⟨rfl,a1,c1,h1,k1⟩
   have k1':=k1.pre ((Kp.refl [] w).alloc _)
   have c0':=k1'.cell c0 HFC.out
   have b0:=k1'.blk' HCB.out HFC.out
   have f0':=b0.frozen 0
   have p0:=k1'.cell HP.out HFP.out
   have q0:=k1'.cell HFB.out HFF.out
   have z1:=k1'.kp.size
   have kc0:w1.cell? ⟨w.heap.size,0,none⟩=some (.int .u32 (k.page:Int)):=k1.cell (by rw [World.cell?_alloc_new];exact Kd.get0 k) (Foreign.new H.out (Nat.le_refl _))
   have kc1:rowAt? w1 ⟨w.heap.size,1,none⟩ 32=some k.sum.c:=k1.row (by simp [go_sem]) (Foreign.new H.out (Nat.le_refl _))
   have G:=HFC.out.next k1' hcl
   have G0:Foreign w.heap.size wb a1:=Foreign.at H.out k1
   have Gf:=HFF.out.next k1' hfl
   have HW:=Lib.hid h1;have K1:=Lib.hid k1';have HG:=Lib.hid G;have HG0:=Lib.hid G0;have HGf:=Lib.hid Gf;have HB:=Lib.hid b0;clear h1 k1 k1' G G0 Gf b0
   go_wp2_with fail
   refine (wr_put_uint32 wb k.page _ _ _ _ (HW.out.cset HG.out 0 _) hk (by have h1:=HO.out;rw [HK.out] at h1;(try simp only [List.length_append,fixB_len] at h1);(try simp only [List.length_append,fixB_len]);omega)).mono ?_
   rintro e w2 ⟨rfl,a2,c2,h2,k2⟩
   have z2:=k2.kp.size
   have q1:w2.cell? ⟨fb,1,none⟩=some (.int .i64 (wd:Int)):=k2.cell ((World.cell?_setCell_other _ _ _ _ (fun e=>by cases e)).trans q0) HGf.out
   have kc2:=k2.row (show rowAt? (w1.setCell ⟨cb,0,none⟩ _) ⟨w.heap.size,1,none⟩ 32=some k.sum.c from by unfold rowAt?;rw [Below.heap_setCell _ _ _ _ (by show w.heap.size≠cb;omega)];exact kc1) HG0.out
   have HW2:=Lib.hid h2;have K2:=Lib.hid k2;clear h2 k2
   go_wp2_with fail
   refine (wr_digest wb _ wd _ _ k.sum _ HW2.out hwd (by have h1:=HO.out;rw [HK.out] at h1;(try simp only [List.length_append,fixB_len] at h1);(try simp only [List.length_append,fixB_len]);omega)).mono ?_
   rintro e w3 ⟨rfl,a3,c3,h3,k3⟩
   have HW3:=Lib.hid h3;have K3:=Lib.hid k3;clear h3 k3
   go_wp2_with fail
   go_end0
   exact ⟨rfl,a3,c3,by rw [HK.out];simpa [List.append_assoc] using HW3.out,(((K1.out.c cb).put 0 _).trans (K2.out.c cb)).trans (K3.out.c cb),by have:=K3.out.blk' (K2.out.blk' (HB.out.set 0 (.int .i64 ((i:Int)+1))) HG.out) (HG.out.next K2.out (by simp;omega));simpa using this⟩
 ·have hkb:kidB pages wd n i k=(if pages=true then fixB 4 k.page else [])++k.sum.l.take wd:=by
   simp only [kidB,h0,if_false,List.nil_append]
  have HK:=Lib.hid hkb;have H:=Lib.hid h;have HO:=Lib.hid ho
  have HFC:=Lib.hid hfc;have HFP:=Lib.hid hfp;have HFF:=Lib.hid hff;have HCB:=Lib.hid hcb
  have HFB:=Lib.hid hfb
  clear hkb h ho hfc hfp hff hcb hss
  cases pages
  ·simp only [Bool.false_eq_true,if_false,List.nil_append] at HK
   go_enter Tryz.func184,Tryz.ntmps184
   go_wp2_with fail
   have HB:=HCB;have HW:Hid (Wr (w.alloc (.cells k.c 150)) wb a c out):=H.out.kp0 ((Kp.refl [] _).alloc _)
   have HG:=HFC;have HGf:=HFF
   have HG0:Hid (Foreign w.heap.size wb a):=Foreign.new H.out (Nat.le_refl _)
   refine (wr_digest wb _ wd _ _ k.sum _ ((H.out.cset HFC.out 0 _).kp0 ((Kp.refl [] _).alloc _)) hwd (by have h1:=HO.out;rw [HK.out] at h1;(try simp only [List.length_append,fixB_len] at h1);(try simp only [List.length_append,fixB_len]);omega)).mono ?_
   rintro e w3 ⟨rfl,a3,c3,h3,k3⟩
   have HW3:=Lib.hid h3;have K3:=Lib.hid k3;clear h3 k3
   go_wp2_with fail
   go_end0
   exact ⟨rfl,a3,c3,by rw [HK.out];simpa [List.append_assoc] using HW3.out,((WKc.refl cb wb a w).put 0 _).trans ((K3.out.pre ((Kp.refl [] _).alloc _)).c cb),by have:=K3.out.blk' ((HCB.out.set 0 (.int .i64 ((i:Int)+1))).alloc _) HFC.out;simpa using this⟩
  ·simp only [if_true] at HK
   go_enter Tryz.func184,Tryz.ntmps184
   go_wp2_with fail
   have HB:=HCB;have HW:Hid (Wr (w.alloc (.cells k.c 150)) wb a c out):=H.out.kp0 ((Kp.refl [] _).alloc _)
   have HG:=HFC;have HGf:=HFF
   have HG0:Hid (Foreign w.heap.size wb a):=Foreign.new H.out (Nat.le_refl _)
   refine (wr_put_uint32 wb k.page _ _ _ _ ((H.out.cset HFC.out 0 _).kp0 ((Kp.refl [] _).alloc _)) hk (by have h1:=HO.out;rw [HK.out] at h1;(try simp only [List.length_append,fixB_len] at h1);(try simp only [List.length_append,fixB_len]);omega)).mono ?_
   rintro e w2 ⟨rfl,a2,c2,h2,k2⟩
   have z2:=k2.kp.size
   have q1:w2.cell? ⟨fb,1,none⟩=some (.int .i64 (wd:Int)):=k2.cell ((World.cell?_alloc_lt _ _ _ (by simp;omega)).trans ((World.cell?_setCell_other _ _ _ _ (fun e=>by cases e)).trans HFB.out)) HGf.out
   have kc2:=k2.row (show rowAt? _ ⟨w.heap.size,1,none⟩ 32=some k.sum.c from by rw [rowAt?_alloc_at _ _ _ _ _ _ (by simp)];simp [go_sem]) HG0.out
   have HW2:=Lib.hid h2;have K2:=Lib.hid k2;clear h2 k2
   go_wp2_with fail
   refine (wr_digest wb _ wd _ _ k.sum _ HW2.out hwd (by have h1:=HO.out;rw [HK.out] at h1;(try simp only [List.length_append,fixB_len] at h1);(try simp only [List.length_append,fixB_len]);omega)).mono ?_
   rintro e w3 ⟨rfl,a3,c3,h3,k3⟩
   have HW3:=Lib.hid h3;have K3:=Lib.hid k3;clear h3 k3
   go_wp2_with fail
   go_end0
   exact ⟨rfl,a3,c3,by rw [HK.out];simpa [List.append_assoc] using HW3.out,(((WKc.refl cb wb a w).put 0 _).trans ((K2.out.pre ((Kp.refl [] _).alloc _)).c cb)).trans (K3.out.c cb),by have:=K3.out.blk' (K2.out.blk' ((HCB.out.set 0 (.int .i64 ((i:Int)+1))).alloc _) HFC.out) (HFC.out.next K2.out (by simp;omega));simpa using this⟩


def kidsB (pages:Bool) (wd:Nat) (n:Nd) (k:Nat):Bs:=(List.range k).flatMap fun i=>kidB pages wd n i (n.kids.getD i Kd.zero)
theorem kidsB_succ (pages:Bool) (wd:Nat) (n:Nd) (k:Nat) (x:Kd) (hx:n.kids[k]?=some x):kidsB pages wd n (k+1)=kidsB pages wd n k++kidB pages wd n k x:=by
 simp [kidsB,List.range_succ,List.getD,hx]
theorem kidsB_mono (pages:Bool) (wd:Nat) (n:Nd) {k m:Nat} (h:k≤m):(kidsB pages wd n k).length≤(kidsB pages wd n m).length:=by
 induction m with
 | zero=>simp [show k=0 by omega]
 | succ m ih=>
  by_cases hk:k=m+1
  ·subst hk;exact Nat.le_refl _
  ·have:=ih (by omega)
   simp only [kidsB,List.range_succ,List.flatMap_append,List.length_append] at this ⊢
   omega

theorem each_kid (wb c cb nb pb fb P wd:Nat) (pa sa ka a:Option Addr) (pc sc kc:Nat) (pages:Bool) (out:Bs) (n:Nd) (w:World)
  (h:Wr w wb a c out) (hcb:Blk w cb 3 #[.int .i64 0]) (hfc:Foreign cb wb a)
  (hnb:w.cell? ⟨nb,1,none⟩=some (.slice sa n.seps.length sc)) (hfn:Foreign nb wb a) (hnc:nb≠cb)
  (hpb:w.cell? ⟨pb,0,none⟩=some (.bool pages)) (hfp:Foreign pb wb a) (hpc:pb≠cb)
  (hfb:w.cell? ⟨fb,1,none⟩=some (.int .i64 wd)) (hff:Foreign fb wb a) (hfbc:fb≠cb)
  (hss:SsAt w sa n.seps) (hsf:n.seps=[]∨∀ b∈ab sa,Foreign b wb a∧b≠cb)
  (hks:KsAt w ka n.kids) (hkf:n.kids=[]∨∀ b∈ab ka,Foreign b wb a∧b≠cb)
  (hns:n.seps.length≤8796093022208) (hnk:n.kids.length≤n.seps.length+1) (hpg:∀ k∈n.kids,k.page<4294967296) (hwd:wd≤32) (ho:out.length+cntN n.kids.length+(kidsB pages wd n n.kids.length).length≤70368744177000) :
  Calls Tryz.prog 183 #[.pointer (some ⟨wb,0,none⟩),.slice ka n.kids.length kc,.func (.func 184) #[] #[.pointer (some ⟨cb,0,none⟩),.pointer (some ⟨nb,0,none⟩),.pointer (some ⟨pb,0,none⟩),.pointer (some ⟨fb,0,none⟩)]] w
   fun e w'=>e=.returned (.tuple #[])∧∃ a' c',Wr w' wb a' c' (out++freeB n.kids.length++kidsB pages wd n n.kids.length)∧WKc cb wb a w a' w':=by
 obtain ⟨c0,c1,f1,hlt⟩:=h.cells
 have hpl:=World.block_lt_of_cell? w _ hpb
 have hfl:=World.block_lt_of_cell? w _ hfb
 have hnl:=World.block_lt_of_cell? w _ hnb
 have hcl:=hcb.lt
 simp only at hpl hfl hnl
 have HO:=Lib.hid ho;have H:=Lib.hid h;have HCB:=Lib.hid hcb;have HFC:=Lib.hid hfc;have HNB:=Lib.hid hnb;have HFN:=Lib.hid hfn;have HPB:=Lib.hid hpb;have HFP:=Lib.hid hfp;have HFB:=Lib.hid hfb;have HFF:=Lib.hid hff;have HSS:=Lib.hid hss;have HSF:=Lib.hid hsf;have HKS:=Lib.hid hks;have HKF:=Lib.hid hkf;have HPG:=Lib.hid hpg
 clear ho h hcb hfc hnb hfn hpb hfp hfb hff hss hsf hks hkf hpg
 go_enter Tryz.func183,Tryz.ntmps183
 go_wp2_with fail
 refine (wr_free _ _ _ _ _ _ H.out (by omega) (by have:=HO.out;omega)).mono ?_
 rintro e w1 ⟨rfl,a1,c1',h1,k1⟩
 have b1:=k1.blk' HCB.out HFC.out
 have HB1:=Lib.hid b1;have HW:=Lib.hid h1;have K1:=Lib.hid k1;clear h1 k1 b1
 go_wp2_with fail
 go_loopw [7,26] (fun _ i wr=>∃ k c' a' ,i=.int .i64 (k:Nat)∧k≤n.kids.length∧Wr wr wb a' c' (out++freeB n.kids.length++kidsB pages wd n k)∧WKc cb wb a w a' wr∧Blk wr cb 3 #[.int .i64 (k:Nat)]) (fun _ i _=>n.kids.length - (intOf i).toNat)
 case atStart=>exact ⟨0,c1',a1,rfl,by omega,by simpa [kidsB] using HW.out,K1.out.c cb,HB1.out⟩
 case round=>
  obtain ⟨k,c',a',rfl,hk,hw,hkk,hbk⟩:=hrel
  have HWr:=Lib.hid hw;have HK:=Lib.hid hkk;have HBK:=Lib.hid hbk;clear hw hkk hbk
  by_cases hlt:k<n.kids.length
  ·obtain ⟨x,hx⟩:∃ x,n.kids[k]?=some x:=⟨_,List.getElem?_eq_getElem hlt⟩
   have hkp:=HK.out.kp
   have HKP:=Lib.hid hkp;clear hkp
   have hz:=HKP.out.size
   obtain ⟨b,o,rfl,hb,cf1⟩:=(HKS.out.kp' HKP.out (HKF.out.imp id (fun hh b hb=>by have:=hh b hb;simp [this.1.1,this.1.2,this.2]))) k x hx
   have HX:=Lib.hid hx;clear hx
   go_wp2_with fail
   refine (form2_any wb c' cb nb pb fb P wd k pa sa none a' pc sc kc pages _ n x _ (HWr.out.kp0 ((Kp.refl [] _).alloc _)) (HBK.out.alloc _) (HFC.out.nextc HK.out hcl)
    ((World.cell?_alloc_lt _ _ _ (by show nb<_;omega)).trans (HKP.out.cell HNB.out (by simp [HFN.out.1,HFN.out.2,hnc])))
    ((World.cell?_alloc_lt _ _ _ (by show pb<_;omega)).trans (HKP.out.cell HPB.out (by simp [HFP.out.1,HFP.out.2,hpc]))) (HFP.out.nextc HK.out hpl) hpc
    ((World.cell?_alloc_lt _ _ _ (by show fb<_;omega)).trans (HKP.out.cell HFB.out (by simp [HFF.out.1,HFF.out.2,hfbc]))) (HFF.out.nextc HK.out hfl) hfbc
    (by simp;omega) (by simp;omega) (by simp;omega)
    ((HSS.out.kp' HKP.out (HSF.out.imp id (fun hh b hb=>by have:=hh b hb;simp [this.1.1,this.1.2,this.2]))).kp ((Kp.refl [] _).alloc _) (by simp)) (by omega) hns (HPG.out x (List.mem_of_getElem? HX.out)) hwd ?_).mono ?_
   ·have h1:=kidsB_mono pages wd n (show k+1≤n.kids.length by omega)
    rw [kidsB_succ pages wd n k x HX.out,List.length_append] at h1
    have h2:=HO.out
    simp only [List.length_append,freeB_length]
    omega
   rintro e w2 ⟨rfl,a2,c2,h2,k2,b2⟩
   have HW2:=Lib.hid h2;have K2:=Lib.hid k2;have HB2:=Lib.hid b2;clear h2 k2 b2
   go_wp2_with fail
   go_roundw
   case rel=>exact ⟨k+1,c2,a2,by go_num,by omega,by rw [kidsB_succ pages wd n k x HX.out];have:=HW2.out;simpa [List.append_assoc] using this,HK.out.trans (K2.out.pre ((Kp.refl [] _).alloc _)),HB2.out⟩
   case measure=>simp [intOf];omega
  ·have hkn:k=n.kids.length:=by omega
   subst hkn
   go_wp2_with fail
   go_end0
   exact ⟨rfl,a',c',by have:=HWr.out;simpa [List.append_assoc] using this,HK.out⟩


def formB (pages:Bool) (wd:Nat) (n:Nd):Bs:=
 if leafB n=true then 1::(freeB n.pairs.length++pairsB n.pairs) else 2::(freeB n.kids.length++kidsB pages wd n n.kids.length)

theorem WK.old {w0 w w':World} {wb:Nat} {a a':Option Addr} (k0:Kp [] w0 w) (k:WK wb a w a' w') (h1:w0.heap.size≤wb) (h2:∀ g∈ab a,w0.heap.size≤g):Kp [] w0 w':=
 k0.from k.kp (fun x hx=>by
  rcases List.mem_cons.1 hx with rfl | hx
  ·exact .inl h1
  ·exact .inl (h2 x hx))
theorem WK.newer {w0 w w':World} {wb:Nat} {a a':Option Addr} (k0:Kp [] w0 w) (k:WK wb a w a' w') (h2:∀ g∈ab a,w0.heap.size≤g):∀ g∈ab a',w0.heap.size≤g:=fun g hg=>by
 rcases k.new g hg with h | h
 ·exact h2 g h
 ·exact Nat.le_trans k0.size h
theorem WKc.old {w0 w w':World} {cb wb:Nat} {a a':Option Addr} (k0:Kp [] w0 w) (k:WKc cb wb a w a' w') (h0:w0.heap.size≤cb) (h1:w0.heap.size≤wb) (h2:∀ g∈ab a,w0.heap.size≤g):Kp [] w0 w':=
 k0.from k.kp (fun x hx=>by
  rcases List.mem_cons.1 hx with rfl | hx
  ·exact .inl h0
  rcases List.mem_cons.1 hx with rfl | hx
  ·exact .inl h1
  ·exact .inl (h2 x hx))

theorem PsAt.kp0 {w w':World} {a:Option Addr} {ps:List Pr} (h:PsAt w a ps) (k:Kp [] w w'):PsAt w' a ps:=h.kp k (by simp)
theorem SsAt.kp0 {w w':World} {a:Option Addr} {ps:List Bs} (h:SsAt w a ps) (k:Kp [] w w'):SsAt w' a ps:=h.kp k (by simp)
theorem KsAt.kp0 {w w':World} {a:Option Addr} {ps:List Kd} (h:KsAt w a ps) (k:Kp [] w w'):KsAt w' a ps:=h.kp k (by simp)

def StrRets (s:Bs) (w:World) (e:Ending) (w':World):Prop:=e=.returned (.string ⟨s.toArray⟩)∧Kp [] w w'

theorem form_leaf (P wd:Nat) (pa sa ka:Option Addr) (pc sc kc:Nat) (pages:Bool) (n:Nd) (w:World) (hl:leafB n=true) (h:NdAt w pa sa ka n) (hnp:n.pairs.length≤4398046511104) (hsz:sizeN wd n≤100000) :
  Calls Tryz.prog 153 #[.agg #[.int .i64 P,.int .i64 wd],.agg #[.slice pa n.pairs.length pc,.slice sa n.seps.length sc,.slice ka n.kids.length kc],.bool pages] w (StrRets (formB pages wd n) w):=by
 have hl':(decide (n.seps.length=0∧n.kids.length=0))=true:=hl
 have hs:sizeN wd n=1+cntN n.pairs.length+(n.pairs.map prN).sum:=by unfold sizeN;rw [if_pos hl]
 have hf:formB pages wd n=[1]++freeB n.pairs.length++pairsB n.pairs:=by unfold formB;rw [if_pos hl];simp
 have HS:=Lib.hid hs;have HL:=Lib.hid hl';have HF:=Lib.hid hf;clear hs hl hl' hf
 have hpa:=h.ps.lts
 have H:=Lib.hid h;have HPA:=Lib.hid hpa;clear h hpa
 go_enter Tryz.func153,Tryz.ntmps153
 go_wp2_with fail
 refine (wr_new _).mono ?_
 rintro e w1 ⟨rfl,rfl⟩
 have hW:=wr_made (((w.alloc (.cells #[.int .i64 P,.int .i64 wd] 24)).alloc (.cells #[.slice pa n.pairs.length pc,.slice sa n.seps.length sc,.slice ka n.kids.length kc] 87)).alloc (.cells #[.bool pages] 4))
 simp only [World.size_alloc] at hW
 have HW:=Lib.hid hW;clear hW
 go_wp2_with fail
 refine (isLeaf_any _ _ _ _ _ _ _ _ _ _).mono ?_
 rintro e w' ⟨rfl,bs1,m1,rfl⟩
 rw [HL.out]
 go_wp2_with fail
 refine (wr_put_uint8 _ 1 _ none [] _ (HW.out.kp0 ((Kp.refl [] _).ext bs1 m1)) (by omega) (by simp)).mono ?_
 rintro e w2 ⟨rfl,a2,c2,h2,k2⟩
 have k2o:=k2.old (w0:=w) (((((((Kp.refl [] _).alloc _).alloc _).alloc _).alloc _).ext _ _)) (by omega) (by simp [ab])
 have k2n:=k2.newer (w0:=w) (((((((Kp.refl [] _).alloc _).alloc _).alloc _).alloc _).ext _ _)) (by simp [ab])
 have hnb:=k2.cell (b:=w.heap.size+1) (o:=0) (v:=.slice pa n.pairs.length pc) (by simp [go_sem]) ⟨by omega,by simp [ab]⟩
 have HW2:=Lib.hid h2;have K2:=Lib.hid k2;have K2O:=Lib.hid k2o;have K2N:=Lib.hid k2n;clear h2 k2 k2o k2n
 go_wp2_with fail
 refine (each_pair _ c2 a2 pa pc _ n.pairs _ HW2.out (H.out.ps.kp0 K2O.out) (HPA.out.imp id (fun hh b hb=>⟨by have:=hh b hb;omega,fun e=>by have:=hh b hb;have:=K2N.out b e;omega⟩)) (by have:=HS.out;simp [fixB_len];omega) hnp).mono ?_
 rintro e w3 ⟨rfl,a3,c3,h3,k3⟩
 have HW3:=Lib.hid h3;have K3:=Lib.hid k3;clear h3 k3
 go_wp2_with fail
 refine (wr_string _ _ _ _ _ HW3.out).mono ?_
 rintro e w4 ⟨rfl,rfl⟩
 go_wp2_with fail
 go_ret
 rw [HF.out]
 exact ⟨rfl,K3.out.old K2O.out (by omega) K2N.out⟩

theorem kidB_len (pages:Bool) (wd:Nat) (n:Nd) (i:Nat) (k:Kd) (hwd:wd≤32):(kidB pages wd n i k).length≤(if 0<i then txN (n.seps.getD (i - 1) []) else 0)+(4+wd):=by
 unfold kidB
 simp only [List.length_append,List.length_take,k.sum.h]
 have h1:(if 0<i then textB (n.seps.getD (i - 1) []) else []).length=(if 0<i then txN (n.seps.getD (i - 1) []) else 0):=by split <;> simp [textB_length]
 have h2:(if pages=true then fixB 4 k.page else []).length≤4:=by split <;> simp [fixB_len]
 omega
theorem kidsB_len (pages:Bool) (wd:Nat) (n:Nd) (hwd:wd≤32):∀ k,k≤n.seps.length+1→(kidsB pages wd n k).length≤k*(4+wd)+((n.seps.take (k - 1)).map txN).sum
 | 0,_=>by simp [kidsB]
 | k+1,h=>by
  have ih:=kidsB_len pages wd n hwd k (by omega)
  have h1:=kidB_len pages wd n k (n.kids.getD k Kd.zero) hwd
  have h2:(kidsB pages wd n (k+1)).length=(kidsB pages wd n k).length+(kidB pages wd n k (n.kids.getD k Kd.zero)).length:=by simp [kidsB,List.range_succ]
  rw [h2,Nat.succ_mul,Nat.add_sub_cancel]
  by_cases hk:0<k
  ·rw [if_pos hk] at h1
   obtain ⟨j,rfl⟩:∃ j,k=j+1:=⟨k - 1,by omega⟩
   have hj:j<n.seps.length:=by omega
   have h3:=sum_take txN n.seps j n.seps[j] (List.getElem?_eq_getElem hj)
   have h4:n.seps.getD (j+1 - 1) []=n.seps[j]:=by simp [List.getD,hj]
   rw [h4] at h1
   rw [Nat.add_sub_cancel] at ih
   omega
  ·have:k=0:=by omega
   subst this
   rw [if_neg hk] at h1
   have h5:(kidsB pages wd n 0).length=0:=rfl
   rw [h5,Nat.zero_mul,List.take_zero]
   simp only [List.map_nil,List.sum_nil]
   omega

theorem form_branch (P wd:Nat) (pa sa ka:Option Addr) (pc sc kc:Nat) (pages:Bool) (n:Nd) (w:World) (hwd:wd≤32) (hl:leafB n=false) (h:NdAt w pa sa ka n) (ho:NdOk n) (hks:n.seps.length+1=n.kids.length) (hsz:sizeN wd n≤100000) :
  Calls Tryz.prog 153 #[.agg #[.int .i64 P,.int .i64 wd],.agg #[.slice pa n.pairs.length pc,.slice sa n.seps.length sc,.slice ka n.kids.length kc],.bool pages] w (StrRets (formB pages wd n) w):=by
 have hl':(decide (n.seps.length=0∧n.kids.length=0))=false:=hl
 have hs:sizeN wd n=1+cntN n.kids.length+n.kids.length*(4+wd)+(n.seps.map txN).sum:=by unfold sizeN;rw [if_neg (by rw [hl];decide)]
 have hf:formB pages wd n=[2]++freeB n.kids.length++kidsB pages wd n n.kids.length:=by unfold formB;rw [if_neg (by rw [hl];decide)];simp
 have hkl:=kidsB_len pages wd n hwd n.kids.length (by omega)
 have hsm:=sum_take_le txN n.seps (n.kids.length - 1)
 have hbd:1+cntN n.kids.length+(kidsB pages wd n n.kids.length).length≤100000:=by omega
 clear hkl hsm hs
 have HBD:=Lib.hid hbd;have HL:=Lib.hid hl';have HF:=Lib.hid hf;have HKS:=Lib.hid hks;clear hbd hl hl' hf hsz
 have hns:=ho.ns
 have hsa:=h.ss.lts
 have hka:=h.ks.lts
 have H:=Lib.hid h;have HO:=Lib.hid ho;have HSA:=Lib.hid hsa;have HKA:=Lib.hid hka;clear h ho hsa hka hks
 go_enter Tryz.func153,Tryz.ntmps153
 go_wp2_with fail
 refine (wr_new _).mono ?_
 rintro e w1 ⟨rfl,rfl⟩
 have hW:=wr_made (((w.alloc (.cells #[.int .i64 P,.int .i64 wd] 24)).alloc (.cells #[.slice pa n.pairs.length pc,.slice sa n.seps.length sc,.slice ka n.kids.length kc] 87)).alloc (.cells #[.bool pages] 4))
 simp only [World.size_alloc] at hW
 have HW:=Lib.hid hW;clear hW
 go_wp2_with fail
 refine (isLeaf_any _ _ _ _ _ _ _ _ _ _).mono ?_
 rintro e w' ⟨rfl,bs1,m1,rfl⟩
 rw [HL.out]
 go_wp2_with fail
 refine (wr_put_uint8 _ 2 _ none [] _ (HW.out.kp0 ((Kp.refl [] _).ext bs1 m1)) (by omega) (by simp)).mono ?_
 rintro e w2 ⟨rfl,a2,c2,h2,k2⟩
 have k2o:=k2.old (w0:=w) (((((((Kp.refl [] _).alloc _).alloc _).alloc _).alloc _).ext _ _)) (by omega) (by simp [ab])
 have k2n:=k2.newer (w0:=w) (((((((Kp.refl [] _).alloc _).alloc _).alloc _).alloc _).ext _ _)) (by simp [ab])
 have F0:∀ b,b<w.heap.size+1+1+1→Foreign b (w.heap.size+1+1+1) none:=fun b hb=>⟨by omega,by simp [ab]⟩
 have hn1:=k2.cell (b:=w.heap.size+1) (o:=1) (v:=.slice sa n.seps.length sc) (by simp [go_sem]) (F0 _ (by omega))
 have hn2:=k2.cell (b:=w.heap.size+1) (o:=2) (v:=.slice ka n.kids.length kc) (by simp [go_sem]) (F0 _ (by omega))
 have hpb:=k2.cell (b:=w.heap.size+1+1) (o:=0) (v:=.bool pages) (by simp [go_sem]) (F0 _ (by omega))
 have hfb:=k2.cell (b:=w.heap.size) (o:=1) (v:=.int .i64 wd) (by simp [go_sem]) (F0 _ (by omega))
 have z2:=k2.kp.size
 simp only [ext_size,World.size_alloc] at z2
 have FN:∀ b,b<w.heap.size+1+1+1→Foreign b (w.heap.size+1+1+1) a2:=fun b hb=>(F0 b hb).next k2 (by simp;omega)
 have HW2:=Lib.hid h2;have K2:=Lib.hid k2;have K2O:=Lib.hid k2o;have K2N:=Lib.hid k2n;have HFN:=Lib.hid FN;clear h2 k2 k2o k2n F0 FN
 go_wp2_with fail
 refine (each_kid _ c2 w2.heap.size (w.heap.size+1) (w.heap.size+1+1) w.heap.size P wd pa sa ka a2 pc sc kc pages _ n _ (HW2.out.kp0 ((Kp.refl [] _).alloc _)) (Blk.new w2 _ _) (Foreign.new HW2.out (Nat.le_refl _))
  (by rw [World.cell?_alloc_lt _ _ _ (by show w.heap.size+1<_;omega)];exact hn1) (HFN.out _ (by omega)) (by omega)
  (by rw [World.cell?_alloc_lt _ _ _ (by show w.heap.size+1+1<_;omega)];exact hpb) (HFN.out _ (by omega)) (by omega)
  (by rw [World.cell?_alloc_lt _ _ _ (by show w.heap.size<_;omega)];exact hfb) (HFN.out _ (by omega)) (by omega)
  (H.out.ss.kp0 (K2O.out.alloc _)) (HSA.out.imp id (fun hh b hb=>by have:=hh b hb;exact ⟨HFN.out b (by omega),by omega⟩))
  (H.out.ks.kp0 (K2O.out.alloc _)) (HKA.out.imp id (fun hh b hb=>by have:=hh b hb;exact ⟨HFN.out b (by omega),by omega⟩))
  hns (by have:=HKS.out;omega) HO.out.pg hwd (by have:=HBD.out;simp [fixB_len];omega)).mono ?_
 rintro e w3 ⟨rfl,a3,c3,h3,k3⟩
 have HW3:=Lib.hid h3;have K3:=Lib.hid k3;clear h3 k3
 go_wp2_with fail
 refine (wr_string _ _ _ _ _ HW3.out).mono ?_
 rintro e w4 ⟨rfl,rfl⟩
 go_wp2_with fail
 go_ret
 rw [HF.out]
 exact ⟨rfl,K3.out.old (K2O.out.alloc _) (by omega) (by omega) K2N.out⟩

end Go.Proofs.YtcaggadjkccbiaaGreat