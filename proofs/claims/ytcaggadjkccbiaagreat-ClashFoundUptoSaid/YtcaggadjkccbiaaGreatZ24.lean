/- The reader's methods on any reader, well or not; a pair is read. -/
import Derived.Test.YtcaggadjkccbiaaGreatZ23
namespace Go.Proofs.YtcaggadjkccbiaaGreat
set_option maxHeartbeats 1000000
set_option maxRecDepth 100000
set_option linter.unusedVariables false
set_option linter.unusedSimpArgs false
open Go Go.RowKit

def RdSt (w : World) (b : Nat) (s : Bs) : Option Bs → Prop
 | some l=>RdOk w b s l
 | none=>RdBad w b s
theorem RdSt.kp {S : List Nat} {w w' : World} {b : Nat} {s : Bs} {o : Option Bs} (h : RdSt w b s o) (k : Kp S w w') (hs : b ∉ S) : RdSt w' b s o:=by
 cases o
 ·exact RdBad.kp h k hs
 ·exact RdOk.kp h k hs
theorem RdSt.lt {w : World} {b : Nat} {s : Bs} {o : Option Bs} (h : RdSt w b s o) : b < w.heap.size:=by
 cases o
 ·exact RdBad.lt h
 ·exact RdOk.lt h

def gotV {T : Type} (p : Bs → Option (T × Bs)) (z : T) (o : Option Bs) : T:=((o.bind p).map (·.1)).getD z
def gotR {T : Type} (p : Bs → Option (T × Bs)) (o : Option Bs) : Option Bs:=(o.bind p).map (·.2)

def RdPost {T : Type} (tv : T → Value) (p : Bs → Option (T × Bs)) (z : T) (b : Nat) (s : Bs) (o : Option Bs) (w : World) (e : Ending) (w' : World) : Prop:=
 e = .returned (tv (gotV p z o)) ∧ Kp [b] w w' ∧ RdSt w' b s (gotR p o)

theorem text_all (b m : Nat) (s : Bs) (o : Option Bs) (w : World) (h : RdSt w b s o) (hs : s.length ≤ 140737488351232) (hm0 : 0 < m) (hm : m ≤ 9223372036854775807) :
  Calls Tryz.prog 88 #[.pointer (some ⟨b,0,none⟩),.int .i64 m] w (RdPost (fun t : Bs=>.string ⟨t.toArray⟩) (textP m) [] b s o w):=by
 cases o with
 | none=>exact (rd_text_bad b s m w h).mono fun e w' ⟨h1,h2⟩=>by subst h2;exact ⟨h1,Kp.refl _ _,h⟩
 | some l=>
  refine (rd_text b m s l w h hs hm0 hm).mono fun e w' h1=>?_
  unfold StrPost at h1
  split at h1 <;> (rename_i hp;exact ⟨by simpa [gotV,hp] using h1.1,h1.2.1,by unfold gotR;simp only [hp,Option.bind_some,Option.map_some,Option.map_none];exact h1.2.2⟩)
theorem u32_all (b : Nat) (s : Bs) (o : Option Bs) (w : World) (h : RdSt w b s o) (hs : s.length ≤ 140737488351232) :
  Calls Tryz.prog 139 #[.pointer (some ⟨b,0,none⟩)] w (RdPost (fun n : Nat=>.int .u32 (n : Int)) (takeP 4) 0 b s o w):=by
 cases o with
 | none=>exact (take_bad_uint32 b s w h).mono fun e w' ⟨h1,h2⟩=>by subst h2;exact ⟨h1,Kp.refl _ _,h⟩
 | some l=>
  refine (take_uint32 b s l w h hs).mono fun e w' h1=>?_
  unfold TakePostuint32 at h1
  split at h1 <;> (rename_i hp;exact ⟨by simpa [gotV,hp] using h1.1,h1.2.1,by unfold gotR;simp only [hp,Option.bind_some,Option.map_some,Option.map_none];exact h1.2.2⟩)
theorem u8_all (b : Nat) (s : Bs) (o : Option Bs) (w : World) (h : RdSt w b s o) (hs : s.length ≤ 140737488351232) :
  Calls Tryz.prog 133 #[.pointer (some ⟨b,0,none⟩)] w (RdPost (fun n : Nat=>.int .u8 (n : Int)) (takeP 1) 0 b s o w):=by
 cases o with
 | none=>exact (take_bad_uint8 b s w h).mono fun e w' ⟨h1,h2⟩=>by subst h2;exact ⟨h1,Kp.refl _ _,h⟩
 | some l=>
  refine (take_uint8 b s l w h hs).mono fun e w' h1=>?_
  unfold TakePostuint8 at h1
  split at h1 <;> (rename_i hp;exact ⟨by simpa [gotV,hp] using h1.1,h1.2.1,by unfold gotR;simp only [hp,Option.bind_some,Option.map_some,Option.map_none];exact h1.2.2⟩)
def dgP (n : Nat) (l : Bs) : Option (Dg × Bs):=(rawP n l).map fun r=>(Dg.pad r.1,r.2)
theorem dg_all (b n : Nat) (s : Bs) (o : Option Bs) (w : World) (h : RdSt w b s o) (hs : s.length ≤ 140737488351232) (hn : n ≤ 32) :
  Calls Tryz.prog 140 #[.pointer (some ⟨b,0,none⟩),.int .i64 n] w (RdPost (fun d : Dg=>.agg d.c) (dgP n) Dg.zero b s o w):=by
 cases o with
 | none=>exact (rd_digest_bad b n s w h hn).mono fun e w' ⟨h1,h2⟩=>⟨h1,h2.of_nil,RdBad.kp h h2 (by simp)⟩
 | some l=>
  refine (rd_digest b n s l w h hs hn).mono fun e w' h1=>?_
  unfold DgPost at h1
  split at h1 <;> (rename_i hp;exact ⟨by simpa [gotV,dgP,hp] using h1.1,h1.2.1,by unfold gotR;simp only [dgP,hp,Option.bind_some,Option.map_some,Option.map_none];exact h1.2.2⟩)

def isRow : TypeDesc → Bool
 | .struct _ | .array _ _=>true
 | _=>false
theorem row_ret {fn : Func} {R : Ending → World → Prop} {a : Act} {w : World} {p : Tmp} {ty : TypeId} {d : TypeDesc} (g : Nat) {t : TypeId} {cs : Array Value} (hr : fn.results = #[.cell p ty]) (hu : Tryz.prog.underlying ty = some d) (hd : isRow d = true) (hi : (Tryz.prog.info? ty).map (·.size) = some cs.size)
  (hp : a.tmps.getD p undef = .pointer (some ⟨g,0,none⟩)) (hg : Blk w g t cs) (hdf : a.defers = []) (hR : R (.returned (.agg cs)) w) : bodyPost Tryz.prog fn R .ret a w:=
 bodyPost_ret (results_cell_row hr a.tmps w g t cs (0,0) _ hp hg hu (by cases d <;> first | rfl | cases hd) hi) hdf hR

def pairP (P : Nat) (_ : Unit) (l : Bs) : Option (Unit × Pr × Bs):=
 match textP (P / 16) l with
 | none=>none
 | some (k,l1)=>match textP (P / 8) l1 with
  | none=>none
  | some (v,l2)=>some ((),(k,v),l2)

theorem pairP_got {P : Nat} {l : Bs} {w : World} {b : Nat} {s v1 v2 : Bs} (h1 : gotV (textP (P / 16)) [] (some l) = v1) (h2 : gotV (textP (P / 8)) [] (gotR (textP (P / 16)) (some l)) = v2)
  (h : RdSt w b s (gotR (textP (P / 8)) (gotR (textP (P / 16)) (some l)))) :
  match pairP P () l with | some (x1,t1,l')=>() = x1 ∧ (v1,v2) = t1 ∧ RdOk w b s l' | none=>RdBad w b s:=by
 unfold pairP
 cases ht : textP (P / 16) l with
 | none=>simpa [gotR,ht,RdSt] using h
 | some r=>
  simp only [gotV,gotR,Option.bind_some,ht,Option.map_some,Option.getD_some] at h1 h2 h
  cases ht2 : textP (P / 8) r.2 with
  | none=>simp only [ht2,Option.map_none] at h ⊢;exact h
  | some r2=>simp only [ht2,Option.map_some,Option.getD_some] at h h2 ⊢;exact ⟨trivial,by rw [h1,h2],h⟩

def JP (fb P : Nat) (wd : Int) (_ : Unit) (w : World) (fp : List Nat) : Prop:=fp = [fb] ∧ Blk w fb 24 #[.int .i64 P,.int .i64 wd]
theorem JP.st (b fb P : Nat) (wd : Int) (hne : fb ≠ b) : St b (JP fb P wd) where
 kp:=fun {x w w' fp S} ⟨h1,h2⟩ k hs=>⟨h1,h2.kp k (hs fb (by simp [h1]))⟩
 lt:=fun {x w fp} ⟨h1,h2⟩ g hg=>by subst h1;simp at hg;subst hg;exact ⟨h2.lt,hne⟩

theorem one_pair (b fb P : Nat) (wd : Int) (s l : Bs) (w : World) (hs : s.length ≤ 140737488351232) (hP0 : 1024 ≤ P) (hP : P ≤ 8192) (hne : fb ≠ b) (h : RdOk w b s l) (hf : Blk w fb 24 #[.int .i64 P,.int .i64 wd]) :
  Calls Tryz.prog 135 #[.pointer (some ⟨b,0,none⟩),.pointer (some ⟨fb,0,none⟩)] w (OnePost tvP (JP fb P wd) b s [fb] w (pairP P () l)):=by
 have h16 : (P : Int) / 16 = ((P / 16 : Nat) : Int):=by omega
 have h8 : (P : Int) / 8 = ((P / 8 : Nat) : Int):=by omega
 have H16:=Lib.hid h16;have H8:=Lib.hid h8
 have H : Hid (RdSt w b s (some l)):=h
 have hbl:=h.lt
 have HF:=Lib.hid hf
 have f0:=hf.cell 0
 have f1:=hf.cell 1
 have hfl:=hf.lt
 simp only [List.getElem?_toArray,List.getElem?_cons_zero,List.getElem?_cons_succ] at f0 f1
 clear h hf h16 h8
 go_enter Tryz.func135,Tryz.ntmps135
 go_wp2_with fail
 refine (maxKey_any _ _ _ (by omega) (by omega)).mono ?_
 rintro e w' ⟨rfl,bs1,n1,rfl⟩
 rw [H16.out]
 go_wp2_with fail
 refine (text_all b (P / 16) s _ _ (H.out.kp (((Kp.refl [] _).alloc _).ext _ _) (by simp)) hs (by omega) (by omega)).mono ?_
 rintro e w1 ⟨rfl,k1,r1⟩
 have hblk:=(Blk.alloc HF.out (.cells #[.string ⟨#[]⟩,.string ⟨#[]⟩] 73)).kp ((Kp.refl [] _).ext bs1 n1) (by simp)
 have hbf:=hblk.kp k1 (by simp;exact hne)
 have hrb:=(((Blk.new w 73 #[.string ⟨#[]⟩,.string ⟨#[]⟩]).kp ((Kp.refl [] _).ext bs1 n1) (by simp)).kp k1 (by simp;omega))
 have g0:=hbf.cell 0
 have g1:=hbf.cell 1
 have y0:=hrb.cell 0
 have y1:=hrb.cell 1
 have z0:=hrb.frozen 0
 have z1:=hrb.frozen 1
 simp only [List.getElem?_toArray,List.getElem?_cons_zero,List.getElem?_cons_succ] at g0 g1 y0 y1
 have hsz:=k1.size
 simp only [ext_size,World.size_alloc] at hsz
 obtain ⟨v1,hv1⟩ : ∃ v,gotV (textP (P / 16)) [] (some l) = v:=⟨_,rfl⟩
 rw [hv1]
 have HV1:=Lib.hid hv1;have K1:=Lib.hid k1;have R1:=Lib.hid r1;have HBF:=Lib.hid hbf;have HRB:=Lib.hid hrb
 clear hv1 k1 r1 hblk hbf hrb
 go_wp2_with fail
 refine (maxVal_any _ _ _ (by omega) (by omega)).mono ?_
 rintro e w' ⟨rfl,bs2,n2,rfl⟩
 rw [H8.out]
 go_wp2_with fail
 refine (text_all b (P / 8) s _ _ (R1.out.kp ((Kp.refl [] _).ext _ _) (by simp)) hs (by omega) (by omega)).mono ?_
 rintro e w2 ⟨rfl,k2,r2⟩
 obtain ⟨v2,hv2⟩ : ∃ v,gotV (textP (P / 8)) [] (gotR (textP (P / 16)) (some l)) = v:=⟨_,rfl⟩
 rw [hv2]
 have hrb:=(Blk.kp HRB.out ((Kp.refl [] _).ext bs2 n2) (by simp)).kp k2 (by simp;omega)
 have y2:=hrb.cell 0
 have y3:=hrb.cell 1
 have z2:=hrb.frozen 0
 have z3:=hrb.frozen 1
 simp only [List.getElem?_toArray,List.getElem?_cons_zero,List.getElem?_cons_succ] at y2 y3
 have HV2:=Lib.hid hv2;have K2:=Lib.hid k2;have R2:=Lib.hid r2
 clear hv2 k2 r2 hrb
 go_wp2_with fail
 have hfin:=((HRB.out.kp ((Kp.refl [] _).ext bs2 n2) (by simp)).kp K2.out (by simp;omega)).set 0 (.string ⟨v1.toArray⟩)
 have hfin:=hfin.set 1 (.string ⟨v2.toArray⟩)
 simp at hfin
 have k3 : Kp [w.heap.size] w2 ((w2.setCell ⟨w.heap.size,0,none⟩ (.string ⟨v1.toArray⟩)).setCell ⟨w.heap.size,1,none⟩ (.string ⟨v2.toArray⟩)):=((Kp.refl [w.heap.size] _).setCell _ (.inr (by simp))).setCell _ (.inr (by simp))
 refine row_ret w.heap.size rfl Tryz.underlying73 rfl (by kernel_rfl) rfl hfin rfl ⟨(v1,v2),(),[fb],rfl,⟨rfl,?_⟩,?_,fun g hg=>.inl hg,by have:=pairP_got HV1.out HV2.out (R2.out.kp k3 (by simp;omega));revert this;cases pairP P () l <;> exact id⟩
 ·exact ((HBF.out.kp ((Kp.refl [] _).ext bs2 n2) (by simp)).kp K2.out (by simp;exact hne)).kp k3 (by simp;omega)
 ·refine Kp.from (T:=[w.heap.size]) ?_ k3 (by simp)
  exact ((((((Kp.refl [b,fb] _).alloc _).ext _ _).trans (K1.out.mono (fun k _ hk=>by simp at hk;simp [hk]))).ext _ _).trans (K2.out.mono (fun k _ hk=>by simp at hk;simp [hk])))

end Go.Proofs.YtcaggadjkccbiaaGreat