/- A digest is read; what stands at a reader's end. -/
import Derived.Test.YtcaggadjkccbiaaGreatZ2
import Derived.Test.YtcaggadjkccbiaaGreatZ1
import Derived.Deep.RegionHeld3
import Derived.Test.YtcaggadjkccbiaaGreatZ9
namespace Go.Proofs.YtcaggadjkccbiaaGreat
set_option linter.unusedVariables false
set_option linter.unusedSimpArgs false
open Go Go.RowKit

set_option maxHeartbeats 400000 in
theorem into_any (n:Int) (w:World) (h1:0≤n) (h2:n≤32):Calls Tryz.prog 158 #[.int .i64 n] w fun e w'=>e=.returned (.int .i64 n)∧w=w':=by
 go_enter Tryz.func158,Tryz.ntmps158
 go_wp2
 all_goals
  go_ret
  exact ⟨ret_int (by omega),rfl⟩

def DgPost (w:World) (b:Nat) (s:Bs) (r:Option (Bs×Bs)) (e:Ending) (w':World):Prop:=
 match r with
 | some (t,l')=>e=.returned (.agg (Dg.pad t).c)∧Kp [b] w w'∧RdOk w' b s l'
 | none=>e=.returned (.agg Dg.zero.c)∧Kp [b] w w'∧RdBad w' b s

theorem dg_ret {fn:Func} {R:Ending→World→Prop} {a:Act} {w:World} {p:Tmp} {g:Nat} {t:TypeId} {d:Dg} (hr:fn.results=#[.cell p 36]) (hp:a.tmps.getD p undef=.pointer (some ⟨g,0,none⟩)) (hg:Blk w g t d.c) (hd:a.defers=[]) (hR:R (.returned (.agg d.c)) w) :
  bodyPost Tryz.prog fn R .ret a w:=
 bodyPost_ret (results_cell_row hr a.tmps w g t d.c (0,0) _ hp hg Tryz.underlying36 rfl (by rw [Dg.c_size];kernel_rfl)) hd hR

theorem two_new (w:World) (t:TypeId) (c:Array Value):Hid (Blk (((w.alloc (.cells c t)).alloc (.cells c t)).drew) w.heap.size t c)∧Hid (Blk (((w.alloc (.cells c t)).alloc (.cells c t)).drew) (w.heap.size+1) t c):=
 ⟨((Blk.new w t c).alloc _).drew,Blk.drew (by have:=Blk.new (w.alloc (.cells c t)) t c;simpa using this)⟩

set_option maxHeartbeats 1000000 in
set_option maxRecDepth 100000 in
theorem rd_digest (b n:Nat) (s l:Bs) (w:World) (h:RdOk w b s l) (hs:s.length≤140737488351232) (hn:n≤32) :
  Calls Tryz.prog 140 #[.pointer (some ⟨b,0,none⟩),.int .i64 n] w (DgPost w b s (rawP n l)):=by
 have hb:=h.lt
 have H:=Lib.hid h;clear h
 have hn':n≤9223372036854775807:=by omega
 obtain ⟨B4,B5⟩:=two_new w 36 Dg.zero.c
 rcases hr:rawP n l with _ | ⟨t,l'⟩
 ·have HR:=Lib.hid hr;clear hr
  go_enter Tryz.func140,Tryz.ntmps140
  go_wp2
  go_region_held3 (fun _=>True) (trivial) (first | (go_at_call 158;refine (into_any _ _ (by omega) (by omega)).mono ?_;rintro e w' ⟨rfl,rfl⟩) | (go_at_call 126;refine (rd_raw _ _ _ _ _ (H.out.kp ((((Kp.refl [] _).alloc _).alloc _).drew) (by simp)) hs hn').mono ?_;rintro e w1 h1;rw [HR.out] at h1;obtain ⟨rfl,hk1,hr1⟩:=h1;have HR1:=Lib.hid hr1;clear hr1;have b4:=Lib.hid (B4.out.kp hk1 (by simp;omega));have b5:=Lib.hid (B5.out.kp hk1 (by simp;omega));have o4:=own?_blk b4.out;have o5:=own?_blk b5.out;have hz:w.heap.size+1<w1.heap.size:=by have:=hk1.size;simp at this;omega))
  go_wp2
  refine dg_ret rfl rfl (((b4.out.setRow_other (g:=w.heap.size+1) _ (by omega)).setRow _)) rfl ⟨rfl,?_,HR1.out.kp (((Kp.refl [w.heap.size,w.heap.size+1] _).setRow _ _ (by simp)).setRow _ _ (by simp)) (by simp;omega)⟩
  exact (((((Kp.refl [b] w).alloc _).alloc _).drew.trans hk1).setRow _ _ (.inl (by omega))).setRow _ _ (.inl (by omega))
 ·have HR:=Lib.hid hr;clear hr
  go_enter Tryz.func140,Tryz.ntmps140
  go_wp2
  go_region_held3 (fun _=>True) (trivial) (first | (go_at_call 158;refine (into_any _ _ (by omega) (by omega)).mono ?_;rintro e w' ⟨rfl,rfl⟩) | (go_at_call 126;refine (rd_raw _ _ _ _ _ (H.out.kp ((((Kp.refl [] _).alloc _).alloc _).drew) (by simp)) hs hn').mono ?_;rintro e w1 h1;rw [HR.out] at h1;obtain ⟨rfl,hk1,hr1⟩:=h1;have HR1:=Lib.hid hr1;clear hr1;have b4:=Lib.hid (B4.out.kp hk1 (by simp;omega));have b5:=Lib.hid (B5.out.kp hk1 (by simp;omega));have o4:=own?_blk b4.out;have o5:=own?_blk b5.out;have hz:w.heap.size+1<w1.heap.size:=by have:=hk1.size;simp at this;omega))
  go_wp2
  refine dg_ret rfl rfl (((b4.out.setRow_other (g:=w.heap.size+1) _ (by omega)).setRow _)) rfl ⟨rfl,?_,HR1.out.kp (((Kp.refl [w.heap.size,w.heap.size+1] _).setRow _ _ (by simp)).setRow _ _ (by simp)) (by simp;omega)⟩
  exact (((((Kp.refl [b] w).alloc _).alloc _).drew.trans hk1).setRow _ _ (.inl (by omega))).setRow _ _ (.inl (by omega))

set_option maxHeartbeats 1000000 in
set_option maxRecDepth 100000 in
theorem rd_digest_bad (b n:Nat) (s:Bs) (w:World) (h:RdBad w b s) (hn:n≤32) :
  Calls Tryz.prog 140 #[.pointer (some ⟨b,0,none⟩),.int .i64 n] w fun e w'=>e=.returned (.agg Dg.zero.c)∧Kp [] w w':=by
 have hb:=h.lt
 have H:=Lib.hid h;clear h
 obtain ⟨B4,B5⟩:=two_new w 36 Dg.zero.c
 go_enter Tryz.func140,Tryz.ntmps140
 go_wp2
 go_region_held3 (fun _=>True) (trivial) (first | (go_at_call 158;refine (into_any _ _ (by omega) (by omega)).mono ?_;rintro e w' ⟨rfl,rfl⟩) | (go_at_call 126;refine (rd_raw_bad _ _ _ _ (H.out.kp ((((Kp.refl [] _).alloc _).alloc _).drew) (by simp))).mono ?_;rintro e w1 ⟨rfl,rfl⟩))
 go_wp2
 exact dg_ret rfl rfl B4.out rfl ⟨rfl,((((Kp.refl [] w).alloc _).alloc _).drew)⟩


theorem src_str {w:World} (t:Bs):Src Tryz.prog 1 9 (.string ⟨t.toArray⟩) t.length (bC t) w:=Src.ofString w Tryz.underlying9 ⟨t.toArray⟩

set_option maxHeartbeats 1000000 in
set_option maxRecDepth 100000 in
theorem wr_raw (wb g c:Nat) (a:Option Addr) (out t:Bs) (w:World) (h:Wr w wb a c out) (hc:w.cell? ⟨g,0,none⟩=some (.string ⟨t.toArray⟩)) (ho:out.length+t.length≤70368744177900) :
  Calls Tryz.prog 192 #[.pointer (some ⟨wb,0,none⟩),.slice (some ⟨g,0,none⟩) 1 1] w (WrPost w wb a (out++t)):=by
 obtain ⟨c0,c1,f1,hlt⟩:=h.cells
 have H:=Lib.hid h;clear h
 have HC:=Lib.hid hc;clear hc
 go_enter Tryz.func192,Tryz.ntmps192
 go_wp2
 clear c0 c1 f1 hlt
 go_loopw [5,17] (fun _ i wr=>(i=.int .i64 0∧wr=w)∨(i=.int .i64 1∧∃ a' c',Wr wr wb a' c' (out++t)∧WK wb a w a' wr)) (fun _ i _=>1 - (intOf i).toNat)
 case atStart=>exact .inl ⟨rfl,rfl⟩
 case round=>
  rcases hrel with ⟨rfl,rfl⟩ | ⟨rfl,a',c',hw,hk⟩
  ·obtain ⟨c0,c1,f1,hlt⟩:=H.out.cells
   have hc:=HC.out
   go_wp2_with (at_builtin;refine wpList_app_u8 rfl rfl rfl H.out.own t.length (bC t) (src_str t) (by omega) ?_;intro a2 c2 w1 hown hk2 hnew;have ho2:=Lib.hid hown;have hk2':=Lib.hid hk2;have hn2:=Lib.hid hnew;obtain ⟨d0,d1,d2,d3⟩:=H.out.later (Kp.refl [] _) hk2;clear hown hk2 hnew)
   obtain ⟨p1,p2⟩:=H.out.put' (Kp.refl [] _) ho2.out hk2'.out hn2.out
   go_roundw
   case rel=>exact .inr ⟨rfl,a2,c2,p1,p2⟩
   case measure=>simp [intOf]
  ·have HW:=Lib.hid hw;have HK:=Lib.hid hk;clear hw hk
   go_wp2
   go_end0
   exact ⟨rfl,a',c',HW.out,HK.out⟩

def textB (t:Bs):Bs:=freeB t.length++t

set_option maxHeartbeats 1000000 in
set_option maxRecDepth 100000 in
theorem wr_text (wb c:Nat) (a:Option Addr) (out t:Bs) (w:World) (h:Wr w wb a c out) (ho:out.length+t.length≤70368744177664) :
  Calls Tryz.prog 181 #[.pointer (some ⟨wb,0,none⟩),.string ⟨t.toArray⟩] w (WrPost w wb a (out++textB t)):=by
 have H:=Lib.hid h;clear h
 have hl:=freeB_len64 t.length (by omega)
 have HL:=Lib.hid hl;clear hl
 go_enter Tryz.func181,Tryz.ntmps181
 go_wp2_with fail
 refine (wr_free _ _ _ _ _ _ H.out (by omega) (by omega)).mono ?_
 rintro e w1 ⟨rfl,a1,c1,h1,k1⟩
 have H1:=Lib.hid h1;have K1:=Lib.hid k1;clear h1 k1
 go_wp2_with fail
 refine (wr_raw _ _ _ _ _ t _ (H1.out.kp0 ((Kp.refl [] _).alloc _)) (by simp) (by simp;have:=HL.out;omega)).mono ?_
 rintro e w2 ⟨rfl,a2,c2,h2,k2⟩
 have H2:=Lib.hid h2;have K2:=Lib.hid k2;clear h2 k2
 go_wp2_with fail
 go_end0
 exact ⟨rfl,a2,c2,by rw [textB,← List.append_assoc];exact H2.out,K1.out.trans (K2.out.pre ((Kp.refl [] _).alloc _))⟩

theorem fold_push (t:Bs) (s:ByteArray):((t.map fun b=>(b.toNat:Int)).foldl (fun r n=>r.push (UInt8.ofNat n.toNat)) s)=⟨s.data++t.toArray⟩:=by
 induction t generalizing s with
 | nil=>simp
 | cons b t ih=>
  simp only [List.map_cons,List.foldl_cons,ih]
  apply ByteArray.ext
  simp [ByteArray.push]
theorem conv_cells {w:World} (a:Addr) (c:Nat) (t:Bs) (h:∀ j v,(bC t)[j]?=some v→w.cell? (a.add j)=some v) :
  (convert 29 9 (.slice (some a) t.length c)).run Tryz.prog w=.ok (.string ⟨t.toArray⟩) w:=by
 have hl:=run_loadCells_list (P:=Tryz.prog) w a (bC t) h
 rw [bC_length] at hl
 rw [run_convert_bytes_string w 29 9 5 _ _ _ Tryz.underlying29 Tryz.underlying5 Tryz.underlying9]
 rw [run_bytesToString w a t.length c (t.map fun b=>(b.toNat:Int)) (by rw [hl];simp [bC]),fold_push]
 simp [ByteArray.empty,ByteArray.emptyWithCapacity];rfl
theorem conv_own {w:World} {a:Option Addr} {c:Nat} {t:Bs} (h:Own w 5 1 a t.length c (bC t)) :
  (convert 29 9 (.slice a t.length c)).run Tryz.prog w=.ok (.string ⟨t.toArray⟩) w:=by
 rcases a with _ | a
 ·rw [run_convert_bytes_nil w 29 5 Tryz.underlying29 Tryz.underlying5 _ _ _ Tryz.underlying9]
  rcases h.block.2 with ⟨_,h0,_⟩ | ⟨_,_,h0,_⟩
  ·have:t=[]:=List.eq_nil_of_length_eq_zero h0
   subst this;rfl
  ·cases h0
 ·exact conv_cells a c t (h.cells rfl)

set_option maxHeartbeats 1000000 in
set_option maxRecDepth 100000 in
theorem wr_string (wb c:Nat) (a:Option Addr) (out:Bs) (w:World) (h:Wr w wb a c out) :
  Calls Tryz.prog 182 #[.pointer (some ⟨wb,0,none⟩)] w fun e w'=>e=.returned (.string ⟨out.toArray⟩)∧w=w':=by
 obtain ⟨c0,c1,f1,hlt⟩:=h.cells
 have hcv:=conv_own h.own
 clear h
 go_enter Tryz.func182,Tryz.ntmps182
 go_wp2_with fail
 go_ret
 exact ⟨rfl,rfl⟩

theorem conv_dg {w:World} {g n t:Nat} {d:Dg} (h:Blk w g t d.c) (hn:n≤32) :
  (convert 29 9 (.slice (some ⟨g,0,none⟩) n 32)).run Tryz.prog w=.ok (.string ⟨(d.l.take n).toArray⟩) w:=by
 have hl:(d.l.take n).length=n:=by simp [d.h];omega
 have:=conv_cells (w:=w) ⟨g,0,none⟩ 32 (d.l.take n) (fun j v hj=>by
  have hadd:(⟨g,0,none⟩:Addr).add j=⟨g,j,none⟩:=by unfold Addr.add;split <;> simp_all
  rw [hadd,h.cell]
  simp only [Dg.c,bC,List.map_take,List.getElem?_take] at hj ⊢
  split at hj
  ·simpa using hj
  ·cases hj)
 rwa [hl] at this

set_option maxHeartbeats 1000000 in
set_option maxRecDepth 100000 in
theorem wr_digest (wb c n:Nat) (a:Option Addr) (out:Bs) (d:Dg) (w:World) (h:Wr w wb a c out) (hn:n≤32) (ho:out.length≤70368744177664) :
  Calls Tryz.prog 186 #[.pointer (some ⟨wb,0,none⟩),.int .i64 n,.agg d.c] w (WrPost w wb a (out++d.l.take n)):=by
 have H:=Lib.hid h;clear h
 have hcv:=conv_dg (Blk.new w 36 d.c) hn
 have hl:=List.length_take_le n d.l
 have HL:=Lib.hid hl;clear hl
 go_enter Tryz.func186,Tryz.ntmps186
 go_wp2_with (go_at_call 158;refine (into_any _ _ (by omega) (by omega)).mono ?_;rintro e w' ⟨rfl,rfl⟩)
 refine (wr_raw _ _ _ _ _ (d.l.take n) _ (H.out.kp0 (((Kp.refl [] _).alloc _).alloc _)) (by simp) (by have:=HL.out;omega)).mono ?_
 rintro e w2 ⟨rfl,a2,c2,h2,k2⟩
 have H2:=Lib.hid h2;have K2:=Lib.hid k2;clear h2 k2
 go_wp2_with fail
 go_end0
 exact ⟨rfl,a2,c2,H2.out,K2.out.pre (((Kp.refl [] _).alloc _).alloc _)⟩

end Go.Proofs.YtcaggadjkccbiaaGreat