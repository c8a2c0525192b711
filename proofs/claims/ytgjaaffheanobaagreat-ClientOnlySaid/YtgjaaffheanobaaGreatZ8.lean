/- append onto a slice that is owned: whatever is appended; the new slice lies where the old one lay, or in new memory. -/
import Derived.Test.YtgjaaffheanobaaGreatZ1
import Derived.Deep.AppendSrc
namespace Go.Proofs.YtgjaaffheanobaaGreat
set_option linter.unusedVariables false
set_option linter.unusedSimpArgs false
open Go Go.RowKit

def ab (a:Option Addr):List Nat:=(a.map (·.block)).toList

def Own (w:World) (e:TypeId) (size:Nat) (a:Option Addr) (n c:Nat) (xs:List Value):Prop:=w.ownsRow 0 e size (.slice a n c) n xs

theorem Own.nil (w:World) (e:TypeId) (size:Nat):Own w e size none 0 0 []:=World.ownsRow_nil w 0 e size
theorem Own.block {w:World} {e:TypeId} {size:Nat} {a:Option Addr} {n c:Nat} {xs:List Value} (h:Own w e size a n c xs) :
  xs.length=n*size∧((a=none∧n=0∧c=0)∨∃ g cur,a=some ⟨g,0,none⟩∧Blk w g e cur∧n≤c∧c≤maxLen∧cur.size=c*size∧cur.toList.take (n*size)=xs):=by
 refine ⟨h.1,?_⟩
 rcases h.2 with ⟨h1,h2⟩ | ⟨g,cap,cur,h1,_,h2,h3,h4,h5,h6⟩
 ·left;cases h1;exact ⟨rfl,rfl,rfl⟩
 ·right;cases h1;exact ⟨g,cur,rfl,h2,h3,h4,h5,h6⟩
theorem Own.kp {S:List Nat} {w w':World} {e:TypeId} {size:Nat} {a:Option Addr} {n c:Nat} {xs:List Value} (h:Own w e size a n c xs) (k:Kp S w w') (hs:∀ g∈ab a,g ∉ S):Own w' e size a n c xs:=by
 refine ⟨h.1,?_⟩
 rcases h.2 with h1 | ⟨g,cap,cur,h1,h0,h2,h3⟩
 ·exact .inl h1
 ·cases h1
  exact .inr ⟨g,_,cur,rfl,h0,k.blk h2 (hs g (by simp [ab])),h3⟩
theorem Own.lt {w:World} {e:TypeId} {size:Nat} {a:Option Addr} {n c:Nat} {xs:List Value} (h:Own w e size a n c xs):∀ g∈ab a,g<w.heap.size:=by
 intro g hg
 rcases h.block.2 with ⟨rfl,_⟩ | ⟨g',cur,rfl,hb,_⟩
 ·simp [ab] at hg
 ·simp [ab] at hg;subst hg;exact hb.lt
theorem Own.cells {w:World} {e:TypeId} {size:Nat} {a:Option Addr} {n c:Nat} {xs:List Value} (h:Own w e size a n c xs) {ad:Addr} (ha:a=some ad):∀ j u,xs[j]?=some u→w.cell? (ad.add j)=some u:=by
 subst ha
 rcases h.block.2 with ⟨h1,_⟩ | ⟨g',cur,h1,hb,_⟩
 ·cases h1
 ·cases h1
  exact World.ownsRow.cells (g:=g') h rfl

section
variable {P : Program} (w : World)

theorem run_app (t tx ty e:TypeId) (i:TypeInfo) (z:Value) (size bytes:Nat) (ht:P.underlying t=some (.slice e)) (hi:P.info? e=some i) (hz:i.zero=some z)
  (hsize:i.size=size) (hby:i.bytes=bytes) (hzs:z.cells.size=size)
  (a:Option Addr) (n c:Nat) (xs:List Value) (hown:Own w e size a n c xs) (x:Value) (m:Nat) (news:List Value) (hs:Src P size tx x m news w)
  (hbytes:(n+m)*bytes≤140737488355328) (h63:n+m≤maxLen) :
  ∃ a' c' w',(Builtin.append_ #[t,tx] ty #[.slice a n c,x]).run P w=.ok (.slice a' (n+m) c') w'∧Own w' e size a' (n+m) c' (xs++news)∧Kp (ab a) w w'∧(∀ g∈ab a',g∈ab a∨w.heap.size≤g):=by
 subst hsize
 subst hby
 have hlen:(xs++news).length=(n+m)*i.size:=by rw [List.length_append,hown.1,hs.newsLen,Nat.add_mul]
 have grown:∀ (old:Nat) (a0:Option Addr),c=old→old<n+m→(Builtin.firstCells i.size n (.slice a0 n old)).run P w.drew=.ok xs.toArray w.drew →
   a0=a→∃ a' c' w',(Builtin.append_ #[t,tx] ty #[.slice a n c,x]).run P w=.ok (.slice a' (n+m) c') w'∧Own w' e i.size a' (n+m) c' (xs++news)∧Kp (ab a) w w'∧(∀ g∈ab a',g∈ab a∨w.heap.size≤g):=by
  intro old a0 hc ho hf ha
  subst hc ha
  have hr:=run_append_grow_src w t tx ty e i z ht hi hz a0 n c xs hf x m news hs ho (by simp only [maxLen] at h63;omega) (growslice_fits (by omega) hbytes)
  have hge:=grownCap_ge w (n+m) c e
  have hcm:grownCap w (n+m) c e≤maxLen:=grownCap_le_maxLen w (n+m) c e h63
  refine ⟨_,_,_,hr,⟨hlen,.inr ⟨w.heap.size,_,_,rfl,Nat.zero_le _,heap_alloc_new w.drew _,hge,hcm,?_,?_⟩⟩,((Kp.refl _ _).drew).alloc _,fun g hg=>.inr (by simp [ab] at hg;omega)⟩
  ·simp only [Array.size_append,List.size_toArray,size_zeroCells,hzs,hlen,← Nat.add_mul]
   congr 1
   omega
  ·simp only [Array.toList_append]
   rw [← hlen]
   exact List.take_left
 rcases hown.block.2 with ⟨rfl,rfl,rfl⟩ | ⟨g,cur,rfl,hb,hnc,hcm,hcs,htake⟩
 ·have hx:xs=[]:=List.eq_nil_of_length_eq_zero (by simpa using hown.1)
  subst hx
  by_cases hm:m=0
  ·subst hm
   have hn:news=[]:=List.eq_nil_of_length_eq_zero (by simpa using hs.newsLen)
   subst hn
   refine ⟨none,0,w,?_,Own.nil w e i.size,Kp.refl _ _,by simp [ab]⟩
   rcases hs.kind with ⟨e',hk⟩ | hk <;> simp [Builtin.append_,run_underlying ht,run_underlying hk,sizeOf,typeInfo,hi,hs.len,hs.cells]
  ·exact grown 0 none rfl (by omega) (by simp [Builtin.firstCells]) rfl
 ·by_cases hroom:n+m≤c
  ·have hfit:n*i.size+news.length≤cur.size:=by rw [hs.newsLen,hcs,← Nat.add_mul];exact Nat.mul_le_mul_right _ hroom
   have hst:=run_storeCells_at P g (n*i.size) e news 0 cur w hb (by simpa using hfit) hs.one
   simp only [Nat.add_zero] at hst
   refine ⟨some ⟨g,0,none⟩,c,w.setRow g (cur.toList.take (n*i.size)++news++cur.toList.drop (n*i.size+news.length)).toArray,?_,⟨hlen,.inr ⟨g,c,(cur.toList.take (n*i.size)++news++cur.toList.drop (n*i.size+news.length)).toArray,rfl,Nat.zero_le _,setRow_heap w g cur _ e _ hb,hroom,hcm,?_,?_⟩⟩,(Kp.refl _ _).setRow _ _ (.inr (by simp [ab])),fun g' hg'=>.inl hg'⟩
   ·rcases hs.kind with ⟨e',hk⟩ | hk <;> simp [Builtin.append_,run_underlying ht,run_underlying hk,sizeOf,typeInfo,hi,hs.len,hroom,hs.cells,Addr.add_lit,hst]
   ·simp only [List.size_toArray,List.length_append,List.length_take,List.length_drop,Array.length_toList]
    omega
   ·rw [htake,← hlen]
    exact List.take_left
  ·have holds:∀ j u,xs[j]?=some u→w.drew.cell? ((⟨g,0,none⟩:Addr).add j)=some u:=hown.cells rfl
   exact grown c (some ⟨g,0,none⟩) rfl (by omega) (run_firstCells_some w.drew i.size n ⟨g,0,none⟩ n c xs hown.1 holds) rfl

theorem wp_app {o:Oper} {A:Act} {K:Act→World→Prop} {Q:Exit→Act→World→Prop} (s x:Operand) (t tx:TypeId)
  (ho:o.op=.call { callee:=.builtin .append,args:=#[s,x],argTypes:=#[t,tx] })
  (e:TypeId) (i:TypeInfo) (z:Value) (size bytes:Nat) (ht:P.underlying t=some (.slice e)) (hi:P.info? e=some i) (hz:i.zero=some z)
  (hsize:i.size=size) (hby:i.bytes=bytes) (hzs:z.cells.size=size)
  (a:Option Addr) (n c:Nat) (xs:List Value) (hs:A.eval s=.slice a n c) (hown:Own w e size a n c xs) (m:Nat) (news:List Value) (hsrc:Src P size tx (A.eval x) m news w)
  (hbytes:(n+m)*bytes≤140737488355328) (h63:n+m≤maxLen)
  (h:∀ a' c' w',Own w' e size a' (n+m) c' (xs++news)→Kp (ab a) w w'→(∀ g∈ab a',g∈ab a∨w.heap.size≤g)→K (A.put o.dst (.slice a' (n+m) c')) w'):o.wp P A w K Q:=by
 obtain ⟨a',c',w',hr,h2,h3,h4⟩:=run_app (P:=P) w t tx o.type e i z size bytes ht hi hz hsize hby hzs a n c xs hown _ m news hsrc hbytes h63
 unfold Oper.wp execOp
 simp only [ho,resolve,invoke,builtin,Sem.run_bind,Sem.run_pure,Result.andThen_ok,List.map_toArray,List.map_cons,List.map_nil,hs,hr]
 exact h a' c' w' h2 h3 h4

theorem wpList_app {ops:Array Oper} {rest:List Oper} {o:Oper} {A:Act} {Q:Exit→Act→World→Prop} (hgd:o.guard=none) (s x:Operand) (t tx:TypeId)
  (ho:o.op=.call { callee:=.builtin .append,args:=#[s,x],argTypes:=#[t,tx] })
  (e:TypeId) (i:TypeInfo) (z:Value) (size bytes:Nat) (ht:P.underlying t=some (.slice e)) (hi:P.info? e=some i) (hz:i.zero=some z)
  (hsize:i.size=size) (hby:i.bytes=bytes) (hzs:z.cells.size=size)
  (a:Option Addr) (n c:Nat) (xs:List Value) (hs:A.eval s=.slice a n c) (hown:Own w e size a n c xs) (m:Nat) (news:List Value) (hsrc:Src P size tx (A.eval x) m news w)
  (hbytes:(n+m)*bytes≤140737488355328) (h63:n+m≤maxLen)
  (h:∀ a' c' w',Own w' e size a' (n+m) c' (xs++news)→Kp (ab a) w w'→(∀ g∈ab a',g∈ab a∨w.heap.size≤g)→wpList P ops Q rest (A.put o.dst (.slice a' (n+m) c')) w'):wpList P ops Q (o::rest) A w:=
 wpList_plain hgd fun _ hK=>wp_app w s x t tx ho e i z size bytes ht hi hz hsize hby hzs a n c xs hs hown m news hsrc hbytes h63 fun a' c' w' h2 h3 h4=>hK _ _ (h a' c' w' h2 h3 h4)
end

theorem Tryz.infoU8:(Tryz.prog.info? 5).map (fun i=>(i.zero,i.size,i.bytes))=some (some (.int .u8 0),1,1):=by kernel_rfl

theorem wpList_app_u8 {w:World} {ops:Array Oper} {rest:List Oper} {o:Oper} {A:Act} {Q:Exit→Act→World→Prop} (hgd:o.guard=none) {s x:Operand} {tx:TypeId}
  (ho:o.op=.call { callee:=.builtin .append,args:=#[s,x],argTypes:=#[114,tx] })
  {a:Option Addr} {n c:Nat} {xs:List Value} (hs:A.eval s=.slice a n c) (hown:Own w 5 1 a n c xs) (m:Nat) (news:List Value) (hsrc:Src Tryz.prog 1 tx (A.eval x) m news w)
  (h63:n+m≤140737488355328)
  (h:∀ a' c' w',Own w' 5 1 a' (n+m) c' (xs++news)→Kp (ab a) w w'→(∀ g∈ab a',g∈ab a∨w.heap.size≤g)→wpList Tryz.prog ops Q rest (A.put o.dst (.slice a' (n+m) c')) w'):wpList Tryz.prog ops Q (o::rest) A w:=by
 obtain ⟨i0,hi,hz0,hz1,hz2⟩:=info_parts Tryz.infoU8
 exact wpList_app w hgd s x 114 tx ho 5 i0 (.int .u8 0) 1 1 Tryz.underlying114 hi hz0 hz1 hz2 rfl a n c xs hs hown m news hsrc (by omega) (by unfold maxLen;omega) h

end Go.Proofs.YtgjaaffheanobaaGreat