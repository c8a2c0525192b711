/- A leaf's form is laid. -/
import Derived.Test.YtcaggadjkccbiaaGreatZ16
import Derived.Test.YtcaggadjkccbiaaGreatZ10
namespace Go.Proofs.YtcaggadjkccbiaaGreat
set_option maxHeartbeats 1000000
set_option maxRecDepth 100000
set_option linter.unusedVariables false
set_option linter.unusedSimpArgs false
open Go Go.RowKit

section
variable {P : Program} (w : World)
theorem run_equalIn_nilf (d:Nat) (t:TypeId) (ps rs:Array TypeId) (vr:Bool) (f:Fn) (x y:Array Value) (h:P.underlying t=some (.func ps rs vr)):(Op.equalIn (d+1) t (.func f x y) .nilFunc).run P w=.ok false w:=by
 simp [Op.equalIn,run_underlying h]
theorem run_eql_nilf (t:TypeId) (ps rs:Array TypeId) (vr:Bool) (f:Fn) (x y:Array Value) (h:P.underlying t=some (.func ps rs vr)):(binOp .eql t (.func f x y) .nilFunc).run P w=.ok (.bool false) w:=by
 have:=run_equalIn_nilf (P:=P) w 9999 t ps rs vr f x y h
 simp only [binOp,Op.equal,Op.maxDepth,Sem.run_bind,this,Result.andThen_ok,Sem.run_pure]
theorem run_neq_nilf (t:TypeId) (ps rs:Array TypeId) (vr:Bool) (f:Fn) (x y:Array Value) (h:P.underlying t=some (.func ps rs vr)):(binOp .neq t (.func f x y) .nilFunc).run P w=.ok (.bool true) w:=by
 have:=run_equalIn_nilf (P:=P) w 9999 t ps rs vr f x y h
 simp only [binOp,Op.equal,Op.maxDepth,Sem.run_bind,this,Result.andThen_ok,Sem.run_pure,Bool.not_false]
end
@[go_sem] theorem eql_nilf_wp (f:Fn) (x y:Array Value) (w:World):(binOp .eql 230 (.func f x y) .nilFunc).run Tryz.prog w=.ok (.bool false) w:=run_eql_nilf w _ _ _ _ f x y Tryz.underlying230
@[go_sem] theorem eql_nilf_wk (f:Fn) (x y:Array Value) (w:World):(binOp .eql 235 (.func f x y) .nilFunc).run Tryz.prog w=.ok (.bool false) w:=run_eql_nilf w _ _ _ _ f x y Tryz.underlying235

theorem freeB_length (n:Nat):(freeB n).length=cntN n:=by
 induction n using Nat.strongRecOn with
 | _ n ih=>
  by_cases h:n<128
  ·rw [freeB_small h,cntN_small h];rfl
  ·rw [freeB_big h,cntN_big h];simp [ih (n / 128) (by omega)]
theorem textB_length (t:Bs):(textB t).length=txN t:=by simp [textB,txN,freeB_length]

def pairB (x:Pr):Bs:=textB x.1++textB x.2
theorem pairB_length (x:Pr):(pairB x).length=prN x:=by simp [pairB,prN,textB_length]
def pairsB (l:List Pr):Bs:=l.flatMap pairB
theorem pairsB_length (l:List Pr):(pairsB l).length=(l.map prN).sum:=by
 induction l with
 | nil=>rfl
 | cons x t ih=>simp only [pairsB,List.flatMap_cons,List.length_append,pairB_length,List.map_cons,List.sum_cons];rw [← ih];rfl
theorem pairsB_take (l:List Pr) (k:Nat) (x:Pr) (hx:l[k]?=some x):pairsB (l.take (k+1))=pairsB (l.take k)++pairB x:=by
 rw [List.take_add_one,hx];simp [pairsB]
theorem sum_take_le {α:Type} (f:α→Nat) (l:List α) (k:Nat):((l.take k).map f).sum≤(l.map f).sum:=by
 have h:(l.map f).sum=((l.take k).map f).sum+((l.drop k).map f).sum:=by
  rw [← List.sum_append,← List.map_append,List.take_append_drop]
 omega

theorem PsAt.lts {w:World} {a:Option Addr} {l:List Pr} (h:PsAt w a l):l=[]∨∀ b∈ab a,b<w.heap.size:=by
 cases l with
 | nil=>exact .inl rfl
 | cons x t=>
  obtain ⟨b,o,rfl,hb,_⟩:=h 0 x rfl
  exact .inr (by simp [ab];exact hb)
theorem SsAt.lts {w:World} {a:Option Addr} {l:List Bs} (h:SsAt w a l):l=[]∨∀ b∈ab a,b<w.heap.size:=by
 cases l with
 | nil=>exact .inl rfl
 | cons x t=>
  obtain ⟨b,o,rfl,hb,_⟩:=h 0 x rfl
  exact .inr (by simp [ab];exact hb)
theorem KsAt.lts {w:World} {a:Option Addr} {l:List Kd} (h:KsAt w a l):l=[]∨∀ b∈ab a,b<w.heap.size:=by
 cases l with
 | nil=>exact .inl rfl
 | cons x t=>
  obtain ⟨b,o,rfl,hb,_⟩:=h 0 x rfl
  exact .inr (by simp [ab];exact hb)
theorem PsAt.kp' {S:List Nat} {w w':World} {a:Option Addr} {l:List Pr} (h:PsAt w a l) (k:Kp S w w') (hs:l=[]∨∀ b∈ab a,b ∉ S):PsAt w' a l:=by
 rcases hs with rfl | hs
 ·exact PsAt.nil _ _
 ·exact h.kp k hs
theorem SsAt.kp' {S:List Nat} {w w':World} {a:Option Addr} {l:List Bs} (h:SsAt w a l) (k:Kp S w w') (hs:l=[]∨∀ b∈ab a,b ∉ S):SsAt w' a l:=by
 rcases hs with rfl | hs
 ·exact SsAt.nil _ _
 ·exact h.kp k hs
theorem KsAt.kp' {S:List Nat} {w w':World} {a:Option Addr} {l:List Kd} (h:KsAt w a l) (k:Kp S w w') (hs:l=[]∨∀ b∈ab a,b ∉ S):KsAt w' a l:=by
 rcases hs with rfl | hs
 ·exact KsAt.nil _ _
 ·exact h.kp k hs

theorem form1_any (wb c:Nat) (a:Option Addr) (out:Bs) (x:Pr) (w:World) (h:Wr w wb a c out) (ho:out.length+prN x≤70368744177000) :
  Calls Tryz.prog 180 #[.pointer (some ⟨wb,0,none⟩),.agg #[.string ⟨x.1.toArray⟩,.string ⟨x.2.toArray⟩]] w (WrPost w wb a (out++pairB x)):=by
 have H:=Lib.hid h;clear h
 have hb:=H.out.blk.lt
 have hx1:x.1.length≤txN x.1:=by unfold txN;omega
 have hx2:x.2.length≤txN x.2:=by unfold txN;omega
 have h1:prN x=txN x.1+txN x.2:=rfl
 have H1:=Lib.hid h1;clear h1
 go_enter Tryz.func180,Tryz.ntmps180
 go_wp2_with fail
 refine (wr_text _ _ _ _ x.1 _ (H.out.kp0 ((Kp.refl [] _).alloc _)) (by have:=H1.out;omega)).mono ?_
 rintro e w1 ⟨rfl,a1,c1,h1,k1⟩
 have HW:=Lib.hid h1;have K1:=Lib.hid k1
 have hcell:w1.cell? ⟨w.heap.size,1,none⟩=some (.string ⟨x.2.toArray⟩):=k1.kp.cell (a:=⟨w.heap.size,1,none⟩) (by simp) (by simp;exact ⟨by omega,fun hh=>by have:=H.out.own.lt _ hh;omega⟩)
 clear h1 k1
 go_wp2_with fail
 refine (wr_text _ _ _ _ x.2 _ HW.out (by have:=H1.out;simp [textB_length];omega)).mono ?_
 rintro e w2 ⟨rfl,a2,c2,h2,k2⟩
 have HW2:=Lib.hid h2;have K2:=Lib.hid k2;clear h2 k2
 go_wp2_with fail
 go_end0
 exact ⟨rfl,a2,c2,by rw [pairB,← List.append_assoc];exact HW2.out,(K1.out.trans K2.out).pre ((Kp.refl [] _).alloc _)⟩

theorem each_pair (wb c:Nat) (a pa:Option Addr) (pc:Nat) (out:Bs) (l:List Pr) (w:World) (h:Wr w wb a c out) (hl:PsAt w pa l) (hn:l=[]∨∀ b∈ab pa,b≠wb∧b ∉ ab a) (ho:out.length+cntN l.length+(l.map prN).sum≤70368744177000) (hll:l.length≤4398046511104) :
  Calls Tryz.prog 179 #[.pointer (some ⟨wb,0,none⟩),.slice pa l.length pc,.func (.func 180) #[] #[]] w (WrPost w wb a (out++freeB l.length++pairsB l)):=by
 obtain ⟨c0,c1,f1,hlt⟩:=h.cells
 have H:=Lib.hid h;have HLL:=Lib.hid hl;have HN:=Lib.hid hn;clear h hl hn
 have HO:=Lib.hid ho;clear ho
 go_enter Tryz.func179,Tryz.ntmps179
 go_wp2_with fail
 refine (wr_free _ _ _ _ _ _ H.out (by omega) (by have:=HO.out;omega)).mono ?_
 rintro e w1 ⟨rfl,a1,c1',h1,k1⟩
 have HW:=Lib.hid h1;have K1:=Lib.hid k1;clear h1 k1
 go_wp2_with fail
 go_loopw [7,26] (fun _ i wr=>∃ k c' a' ,i=.int .i64 (k:Nat)∧k≤l.length∧Wr wr wb a' c' (out++freeB l.length++pairsB (l.take k))∧WK wb a w a' wr) (fun _ i _=>l.length - (intOf i).toNat)
 case atStart=>exact ⟨0,c1',a1,rfl,by omega,by simpa [pairsB] using HW.out,K1.out⟩
 case round=>
  obtain ⟨k,c',a',rfl,hk,hw,hkk⟩:=hrel
  have HWr:=Lib.hid hw;have HK:=Lib.hid hkk;clear hw hkk
  by_cases hlt:k<l.length
  ·obtain ⟨x,hx⟩:∃ x,l[k]?=some x:=⟨_,List.getElem?_eq_getElem hlt⟩
   obtain ⟨b,o,rfl,hb,cf1,cf2⟩:=(HLL.out.kp' HK.out.kp (HN.out.imp id (fun hh b hb=>by have:=hh b hb;simp [this.1,this.2]))) k x hx
   have HX:=Lib.hid hx;clear hx
   go_wp2_with fail
   refine (form1_any wb c' a' _ x _ (HWr.out.kp0 ((Kp.refl [] _).alloc _)) ?_).mono ?_
   ·have h1:=sum_take_le prN l (k+1)
    rw [sum_take prN l k x HX.out] at h1
    have h2:=HO.out
    simp only [List.length_append,freeB_length,pairsB_length]
    omega
   rintro e w2 ⟨rfl,a2,c2,h2,k2⟩
   have HW2:=Lib.hid h2;have K2:=Lib.hid k2;clear h2 k2
   go_wp2_with fail
   go_roundw
   case rel=>exact ⟨k+1,c2,a2,by go_num,by omega,by rw [pairsB_take l k x HX.out];have:=HW2.out;simpa [List.append_assoc] using this,HK.out.trans (K2.out.pre ((Kp.refl [] _).alloc _))⟩
   case measure=>simp [intOf];omega
  ·have hlen:l.take k=l:=List.take_of_length_le (by omega)
   have HL:=Lib.hid hlen;clear hlen
   go_wp2_with fail
   go_end0
   exact ⟨rfl,a',c',by have:=HWr.out;rw [HL.out] at this;simpa [List.append_assoc] using this,HK.out⟩

end Go.Proofs.YtcaggadjkccbiaaGreat