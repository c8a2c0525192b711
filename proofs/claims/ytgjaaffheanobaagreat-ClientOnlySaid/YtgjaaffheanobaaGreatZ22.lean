/- The writer's methods: what they lay, and which memory they touch. -/
import Derived.Test.YtgjaaffheanobaaGreatZ8
import Derived.Test.YtgjaaffheanobaaGreatZ3
import Derived.Test.YtgjaaffheanobaaGreatZ5
namespace Go.Proofs.YtgjaaffheanobaaGreat
set_option linter.unusedVariables false
set_option linter.unusedSimpArgs false
open Go Go.RowKit

structure Wr (w:World) (wb:Nat) (a:Option Addr) (c:Nat) (out:Bs):Prop where
 blk:Blk w wb 149 #[.bool true,.slice a out.length c]
 own:Own w 5 1 a out.length c (bC out)
 ne:wb ∉ ab a

structure WK (wb:Nat) (a:Option Addr) (w:World) (a':Option Addr) (w':World):Prop where
 kp:Kp (wb::ab a) w w'
 new:∀ g∈ab a',g∈ab a∨w.heap.size≤g

theorem WK.refl (wb:Nat) (a:Option Addr) (w:World):WK wb a w a w:=⟨Kp.refl _ _,fun _ h=>.inl h⟩
theorem WK.trans {wb : Nat} {a a1 a2 : Option Addr} {w w1 w2 : World} (h : WK wb a w a1 w1) (k : WK wb a1 w1 a2 w2) : WK wb a w a2 w2 :=
  ⟨h.kp.from k.kp (fun x hx => by
    rcases List.mem_cons.1 hx with rfl | hx
    · exact .inr (by simp)
    · rcases h.new x hx with h1 | h1
      · exact .inr (by simp [h1])
      · exact .inl h1),
   fun g hg => by
    rcases k.new g hg with h1 | h1
    · exact h.new g h1
    · exact .inr (Nat.le_trans h.kp.size h1)⟩
theorem WK.pre {wb:Nat} {a a2:Option Addr} {w w1 w2:World} (h:Kp [] w w1) (k:WK wb a w1 a2 w2):WK wb a w a2 w2:=
 (WK.trans ⟨h.of_nil,fun _ h=>.inl h⟩ k)
theorem WK.post {wb:Nat} {a a2:Option Addr} {w w1 w2:World} (k:WK wb a w a2 w1) (h:Kp [] w1 w2):WK wb a w a2 w2:=
 k.trans ⟨h.of_nil,fun _ h=>.inl h⟩
theorem Wr.kp {S:List Nat} {w w':World} {wb c:Nat} {a:Option Addr} {out:Bs} (h:Wr w wb a c out) (k:Kp S w w') (h1:wb ∉ S) (h2:∀ g∈ab a,g ∉ S):Wr w' wb a c out:=
 ⟨h.blk.kp k h1,h.own.kp k h2,h.ne⟩
theorem Wr.kp0 {w w':World} {wb c:Nat} {a:Option Addr} {out:Bs} (h:Wr w wb a c out) (k:Kp [] w w'):Wr w' wb a c out:=h.kp k (by simp) (by simp)
theorem Wr.cells {w:World} {wb c:Nat} {a:Option Addr} {out:Bs} (h:Wr w wb a c out):w.cell? ⟨wb,0,none⟩=some (.bool true)∧w.cell? ⟨wb,1,none⟩=some (.slice a out.length c)∧w.frozen? ⟨wb,1,none⟩=false∧wb<w.heap.size:=
 ⟨h.blk.cell 0,h.blk.cell 1,h.blk.frozen 1,h.blk.lt⟩
theorem WK.blk {wb:Nat} {a a':Option Addr} {w w':World} (k:WK wb a w a' w') {g:Nat} {o:Obj} (h:w.heap[g]?=some o) (h1:g≠wb) (h2:g ∉ ab a):w'.heap[g]?=some o:=
 k.kp.blk h (by simp [h1,h2])

theorem Wr.put {w w1:World} {wb c c':Nat} {a a':Option Addr} {out t:Bs} (h:Wr w wb a c out) (hown:Own w1 5 1 a' (out.length+t.length) c' (bC out++bC t)) (hk:Kp (ab a) w w1) (hn:∀ g∈ab a',g∈ab a∨w.heap.size≤g) :
  Wr (w1.setCell ⟨wb,1,none⟩ (.slice a' (out.length+t.length) c')) wb a' c' (out++t)∧WK wb a w a' (w1.setCell ⟨wb,1,none⟩ (.slice a' (out.length+t.length) c')):=by
 have hb:=h.blk.kp hk h.ne
 have hne:wb ∉ ab a':=fun e=>by
  rcases hn _ e with h1 | h1
  ·exact h.ne h1
  ·have:=h.blk.lt;omega
 refine ⟨⟨?_,?_,hne⟩,⟨(hk.mono (fun k _ hk=>by simp [hk])).setCell _ (.inr (by simp)),hn⟩⟩
 ·have:=hb.set 1 (.slice a' (out.length+t.length) c')
  simpa using this
 ·rw [bC_app,List.length_append]
  exact hown.kp ((Kp.refl [wb] _).setCell _ (.inr (by simp))) (fun g hg=>by simp;rintro rfl;exact hne hg)

def WrPost (w:World) (wb:Nat) (a:Option Addr) (out:Bs) (e:Ending) (w':World):Prop:=
 e=.returned (.tuple #[])∧∃ a' c',Wr w' wb a' c' out∧WK wb a w a' w'

set_option maxHeartbeats 400000 in
theorem wr_new (w:World):Calls Tryz.prog 51 #[] w fun e w'=>e=.returned (.pointer (some ⟨w.heap.size,0,none⟩))∧w'=w.alloc (.cells #[.bool true,.slice none 0 0] 149):=by
 go_enter Tryz.func51,Tryz.ntmps51
 go_wp2
 go_ret
 exact ⟨rfl,rfl⟩

theorem bC_byte (n:Nat) (h:n<256):bC [n.toUInt8]=[.int .u8 (n:Int)]:=by
 simp [bC];omega
theorem Wr.later {w wa w1:World} {wb c:Nat} {a:Option Addr} {out:Bs} (h:Wr w wb a c out) (k0:Kp [] w wa) (hk:Kp (ab a) wa w1) :
  w1.cell? ⟨wb,0,none⟩=some (.bool true)∧w1.cell? ⟨wb,1,none⟩=some (.slice a out.length c)∧w1.frozen? ⟨wb,1,none⟩=false∧wb<w1.heap.size:=
 let b:=(h.blk.kp k0 (by simp)).kp hk h.ne
 ⟨b.cell 0,b.cell 1,b.frozen 1,b.lt⟩
theorem Wr.put' {w wa w1:World} {wb c c':Nat} {a a':Option Addr} {out t:Bs} (h:Wr w wb a c out) (k0:Kp [] w wa) (hown:Own w1 5 1 a' (out.length+t.length) c' (bC out++bC t)) (hk:Kp (ab a) wa w1) (hn:∀ g∈ab a',g∈ab a∨wa.heap.size≤g) :
  Wr (w1.setCell ⟨wb,1,none⟩ (.slice a' (out.length+t.length) c')) wb a' c' (out++t)∧WK wb a w a' (w1.setCell ⟨wb,1,none⟩ (.slice a' (out.length+t.length) c')):=
 let ⟨h1,h2⟩:=(h.kp0 k0).put hown hk hn
 ⟨h1,h2.pre k0⟩
theorem src_one {w:World} {v:Value} (h:v.oneCell'=true) (t:TypeId):Src Tryz.prog 1 114 (.slice (some ⟨w.heap.size,0,none⟩) 1 1) 1 [v] (w.alloc (.cells #[v] t)):=
 Src.ofSlice _ Tryz.underlying114 _ _ _ _ rfl (by
  intro j u hj
  match j,hj with
  | 0,hj=>simp at hj;subst hj;simp [Addr.add]
  | j+1,hj=>simp at hj) (by intro u hu;simp at hu;subst hu;exact h)


def fixB:Nat→Nat→Bs
 | 0,_=>[]
 | k+1,n=>(n / 256 ^ k % 256).toUInt8::fixB k n
theorem fixB_len:∀ k n,(fixB k n).length=k
 | 0,_=>rfl
 | k+1,n=>by simp [fixB,fixB_len k n]
theorem fixB_take:∀ (k n j:Nat),j<k→(fixB k n).take (k - j)=(fixB k n).take (k - (j+1))++[(n / 256 ^ j % 256).toUInt8]
 | 0,_,_,h=>absurd h (by omega)
 | k+1,n,j,h=>by
  by_cases hj:j=k
  ·subst hj;simp [fixB]
  ·have ih:=fixB_take k n j (by omega)
   rw [show k+1 - j=(k - j)+1 by omega,show k+1 - (j+1)=(k - (j+1))+1 by omega]
   simp only [fixB,List.take_succ_cons,ih,List.cons_append]

theorem own_cast {w:World} {e:TypeId} {a:Option Addr} {n c:Nat} {xs:List Value} {x y:Int} (h:x=y) (o:Own w e 1 a n c (xs++[.int .u8 y])):Own w e 1 a n c (xs++[.int .u8 x]):=by rw [h];exact o

end Go.Proofs.YtgjaaffheanobaaGreat