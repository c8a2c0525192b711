/- Texts and digests are laid; the bytes as a text. -/
import Derived.Test.YtgjaaffheanobaaGreatZ22
import Derived.Test.YtgjaaffheanobaaGreatZ6
namespace Go.Proofs.YtgjaaffheanobaaGreat
set_option linter.unusedVariables false
set_option linter.unusedSimpArgs false
open Go Go.RowKit

theorem src_str {w:World} (t:Bs):Src Tryz.prog 1 9 (.string ⟨t.toArray⟩) t.length (bC t) w:=Src.ofString w Tryz.underlying9 ⟨t.toArray⟩

set_option maxHeartbeats 1000000 in
set_option maxRecDepth 100000 in
theorem wr_raw (wb g c:Nat) (a:Option Addr) (out t:Bs) (w:World) (h:Wr w wb a c out) (hc:w.cell? ⟨g,0,none⟩=some (.string ⟨t.toArray⟩)) (ho:out.length+t.length≤70368744177900) :
  Calls Tryz.prog 54 #[.pointer (some ⟨wb,0,none⟩),.slice (some ⟨g,0,none⟩) 1 1] w (WrPost w wb a (out++t)):=by
 obtain ⟨c0,c1,f1,hlt⟩:=h.cells
 have H:=Lib.hid h;clear h
 have HC:=Lib.hid hc;clear hc
 go_enter Tryz.func54,Tryz.ntmps54
 go_wp2
 clear c0 c1 f1 hlt
 go_loopw [5,17] (fun _ i wr=>(i=.int .i64 0∧wr=w)∨(i=.int .i64 1∧∃ a' c',Wr wr wb a' c' (out++t)∧WK wb a w a' wr)) (fun _ i _=>1 - (intOf i).toNat)
 case atStart=>exact .inl ⟨rfl,rfl⟩
 case round=>
  rcases hrel with ⟨rfl,rfl⟩ | ⟨rfl,a',c',hw,hk⟩
  ·obtain ⟨c0,c1,f1,hlt⟩:=H.out.cells
   have hc:=HC.out
   go_wp2_with (at_builtin;refine wpList_app_u8 rfl rfl rfl H.out.own t.length (bC t) (src_str t) (by omega) ?_;intro a2 c2 w1 hown hk2 hnew;have ho2:=Lib.hid hown;have hk2':=Lib.hid hk2;have hn2:=Lib.hid hnew;obtain ⟨d0,d1,d2,d3⟩:=H.out.later (Kp.refl [] _) hk2;clear hown hk2 hnew)
   obtain ⟨p1,p2⟩:=H.out.put' (Kp.refl [] _) ho2.out hk2'.out hn2.out
   go_roundw
   case rel=>exact .inr ⟨rfl,a2,c2,p1,p2⟩
   case measure=>simp [intOf]
  ·have HW:=Lib.hid hw;have HK:=Lib.hid hk;clear hw hk
   go_wp2
   go_end0
   exact ⟨rfl,a',c',HW.out,HK.out⟩

theorem fold_push (t:Bs) (s:ByteArray):((t.map fun b=>(b.toNat:Int)).foldl (fun r n=>r.push (UInt8.ofNat n.toNat)) s)=⟨s.data++t.toArray⟩:=by
 induction t generalizing s with
 | nil=>simp
 | cons b t ih=>
  simp only [List.map_cons,List.foldl_cons,ih]
  apply ByteArray.ext
  simp [ByteArray.push]
theorem conv_cells {w:World} (a:Addr) (c:Nat) (t:Bs) (h:∀ j v,(bC t)[j]?=some v→w.cell? (a.add j)=some v) :
  (convert 114 9 (.slice (some a) t.length c)).run Tryz.prog w=.ok (.string ⟨t.toArray⟩) w:=by
 have hl:=run_loadCells_list (P:=Tryz.prog) w a (bC t) h
 rw [bC_length] at hl
 rw [run_convert_bytes_string w 114 9 5 _ _ _ Tryz.underlying114 Tryz.underlying5 Tryz.underlying9]
 rw [run_bytesToString w a t.length c (t.map fun b=>(b.toNat:Int)) (by rw [hl];simp [bC]),fold_push]
 simp [ByteArray.empty,ByteArray.emptyWithCapacity];rfl
theorem conv_own {w:World} {a:Option Addr} {c:Nat} {t:Bs} (h:Own w 5 1 a t.length c (bC t)) :
  (convert 114 9 (.slice a t.length c)).run Tryz.prog w=.ok (.string ⟨t.toArray⟩) w:=by
 rcases a with _ | a
 ·rw [run_convert_bytes_nil w 114 5 Tryz.underlying114 Tryz.underlying5 _ _ _ Tryz.underlying9]
  rcases h.block.2 with ⟨_,h0,_⟩ | ⟨_,_,h0,_⟩
  ·have:t=[]:=List.eq_nil_of_length_eq_zero h0
   subst this;rfl
  ·cases h0
 ·exact conv_cells a c t (h.cells rfl)

set_option maxHeartbeats 1000000 in
set_option maxRecDepth 100000 in
theorem wr_string (wb c:Nat) (a:Option Addr) (out:Bs) (w:World) (h:Wr w wb a c out) :
  Calls Tryz.prog 55 #[.pointer (some ⟨wb,0,none⟩)] w fun e w'=>e=.returned (.string ⟨out.toArray⟩)∧w=w':=by
 obtain ⟨c0,c1,f1,hlt⟩:=h.cells
 have hcv:=conv_own h.own
 clear h
 go_enter Tryz.func55,Tryz.ntmps55
 go_wp2_with fail
 go_ret
 exact ⟨rfl,rfl⟩

theorem conv_dg {w:World} {g n t:Nat} {d:Dg} (h:Blk w g t d.c) (hn:n≤32) :
  (convert 114 9 (.slice (some ⟨g,0,none⟩) n 32)).run Tryz.prog w=.ok (.string ⟨(d.l.take n).toArray⟩) w:=by
 have hl:(d.l.take n).length=n:=by simp [d.h];omega
 have:=conv_cells (w:=w) ⟨g,0,none⟩ 32 (d.l.take n) (fun j v hj=>by
  have hadd:(⟨g,0,none⟩:Addr).add j=⟨g,j,none⟩:=by unfold Addr.add;split <;> simp_all
  rw [hadd,h.cell]
  simp only [Dg.c,bC,List.map_take,List.getElem?_take] at hj ⊢
  split at hj
  ·simpa using hj
  ·cases hj)
 rwa [hl] at this

set_option maxHeartbeats 1000000 in
set_option maxRecDepth 100000 in
theorem wr_digest (wb c n:Nat) (a:Option Addr) (out:Bs) (d:Dg) (w:World) (h:Wr w wb a c out) (hn:n≤32) (ho:out.length≤70368744177664) :
  Calls Tryz.prog 53 #[.pointer (some ⟨wb,0,none⟩),.int .i64 n,.agg d.c] w (WrPost w wb a (out++d.l.take n)):=by
 have H:=Lib.hid h;clear h
 have hcv:=conv_dg (Blk.new w 26 d.c) hn
 have hl:=List.length_take_le n d.l
 have HL:=Lib.hid hl;clear hl
 go_enter Tryz.func53,Tryz.ntmps53
 go_wp2_with (go_at_call 80;refine (into_any _ _ (by omega) (by omega)).mono ?_;rintro e w' ⟨rfl,rfl⟩)
 refine (wr_raw _ _ _ _ _ (d.l.take n) _ (H.out.kp0 (((Kp.refl [] _).alloc _).alloc _)) (by simp) (by have:=HL.out;omega)).mono ?_
 rintro e w2 ⟨rfl,a2,c2,h2,k2⟩
 have H2:=Lib.hid h2;have K2:=Lib.hid k2;clear h2 k2
 go_wp2_with fail
 go_end0
 exact ⟨rfl,a2,c2,H2.out,K2.out.pre (((Kp.refl [] _).alloc _).alloc _)⟩

end Go.Proofs.YtgjaaffheanobaaGreat