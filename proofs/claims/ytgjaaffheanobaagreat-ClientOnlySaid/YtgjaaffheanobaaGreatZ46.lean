/- Values without addresses: a map is made. -/
import Derived.Test.YtgjaaffheanobaaGreatZ20
namespace Go.Proofs.YtgjaaffheanobaaGreat
set_option linter.unusedVariables false
set_option linter.unusedSimpArgs false
open Go Go.RowKit

theorem StAt.newMap {w:World} {S:Sto} (hS:StAt w S) (t:TypeId):StAt (w.alloc (.map #[] 0)) ⟨(w.heap.size,t,mapD [] [])::S.bk,S.ow⟩∧Evo w S.I (w.alloc (.map #[] 0)) (⟨(w.heap.size,t,mapD [] [])::S.bk,S.ow⟩:Sto).I:=by
 have hevo:Evo w S.I (w.alloc (.map #[] 0)) (⟨(w.heap.size,t,mapD [] [])::S.bk,S.ow⟩:Sto).I:=
  (evo_alloc S.I _).mono (fun b e hb hi=>⟨by
   simp only [List.map_cons,List.mem_cons,not_or]
   exact ⟨by omega,hi.1⟩,hi.2⟩)
 refine ⟨⟨?_,fun b t' d' hm=>?_,fun b L hm=>?_⟩,hevo⟩
 ·simp only [List.map_cons,List.cons_append,List.nodup_cons]
  refine ⟨fun hm=>?_,hS.nd⟩
  rcases List.mem_append.1 hm with hm | hm
  ·exact absurd (hS.lt (.inl hm)) (by omega)
  ·exact absurd (hS.lt (.inr hm)) (by omega)
 ·rcases List.mem_cons.1 hm with hm | hm
  ·simp only [Prod.mk.injEq] at hm
   obtain ⟨rfl,rfl,rfl⟩:=hm
   show ∃ (es:Array MapEntry) (n:Nat),_
   exact ⟨#[],0,heap_alloc_new w _,by simp only [List.map_nil];exact RVals.mk0,by simp only [List.map_nil];exact RVals.mk0⟩
  ·exact (hS.mutAt b t' d' hm).alloc _ hevo
 ·obtain ⟨t',cur,h1,h2⟩:=hS.ownAt b L hm
  exact ⟨t',cur,(Below.heap_alloc _ _ _ (lt_of_block h1)).trans h1,h2⟩

section
variable {B : Bg} {Q : AX → List D → Sto → Prop} {A : List D} {S : Sto} {ops : Array Oper} {l : List Oper} {o : Oper}
theorem wmm {t:TypeId} (k:∀ b,b ∉ S.bk.map (·.1)→b ∉ S.ow.map (·.1)→AOps Tryz.prog B ops Q l (putA A o.dst (.v (.map (some b)))) ⟨(b,t,mapD [] [])::S.bk,S.ow⟩)
  (ho:o.op=.makeMap t none:=by rfl) (hw:wantedA ops A o=some true:=by rfl):AOps Tryz.prog B ops Q (o::l) A S:=fun a w h=>by
 refine does1 h hw ?_ (k w.heap.size (fresh_new h.st).1 (fresh_new h.st).2)
 obtain ⟨h1,h2⟩:=h.st.newMap t
 refine ⟨_,_,_,?_,.inl rfl,RVal.vv rfl,h1,h2⟩
 obtain ⟨dst,op,type,pos,after,guard⟩:=o
 simp only at ho
 subst ho
 simp only [execOp,Instr.makeMap,Sem.run_bind,run_newObj,Result.andThen_ok,Sem.run_pure]
 simp
end

end Go.Proofs.YtgjaaffheanobaaGreat