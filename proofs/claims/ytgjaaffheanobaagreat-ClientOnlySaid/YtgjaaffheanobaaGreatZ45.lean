/- The program's writer (values without addresses). -/
import Derived.Test.YtgjaaffheanobaaGreatZ24
import Derived.Test.YtgjaaffheanobaaGreatZ44
namespace Go.Proofs.YtgjaaffheanobaaGreat
set_option maxHeartbeats 1000000
set_option maxRecDepth 100000
set_option linter.unusedVariables false
set_option linter.unusedSimpArgs false
open Go Go.RowKit

theorem bC_flat (l:Bs):l.flatMap (fun b=>[Value.int .u8 (b.toNat:Int)])=bC l:=by
 induction l with
 | nil=>rfl
 | cons b l ih=>rw [List.flatMap_cons,ih];rfl
def wrE (a:Option Addr) (c:Nat) (out:Bs):List (Nat×TypeId×D):=entL 5 1 a c (out.map u8D)
def WrG (bk0:List (Nat×TypeId×D)) (ow:List (Nat×Nat)) (wb:Nat) (out:Bs) (S:Sto):Prop:=
 ∃ (a:Option Addr) (c:Nat),S=⟨(wb,149,.agg [bD true,.v (.slice a out.length c)])::(wrE a c out++bk0),ow⟩∧LIn (wrE a c out) 5 1 a c (out.map u8D)
theorem WrG.wr {bk0:List (Nat×TypeId×D)} {ow:List (Nat×Nat)} {wb:Nat} {out:Bs} {S:Sto} {w:World} (h:WrG bk0 ow wb out S) (hS:StAt w S):∃ (a:Option Addr) (c:Nat),Wr w wb a c out ∧
  S=⟨(wb,149,.agg [bD true,.v (.slice a out.length c)])::(wrE a c out++bk0),ow⟩:=by
 obtain ⟨a,c,rfl,hl⟩:=h
 refine ⟨a,c,⟨?_,?_,?_⟩,rfl⟩
 ·obtain ⟨us,hb,hv⟩:=(hS.mutAt wb _ _ List.mem_cons_self).blk rfl
  have hv:=hv.plain (fun l e=>by cases e)
  unfold RV at hv
  obtain ⟨xs,ys,rfl,h1,h2⟩:=RVs.two hv
  unfold RV at h1 h2
  obtain ⟨rfl,-⟩:=h1
  obtain ⟨rfl,-⟩:=h2
  exact hb
 ·have hl2:LIn (⟨(wb,149,.agg [bD true,.v (.slice a out.length c)])::(wrE a c out++bk0),ow⟩:Sto).bk 5 1 a c (out.map u8D):=hl.sub (fun x hx=>by simp [hx])
  have:=hl2.own hS (fun x us=>rv_u8 x us) (fun _=>rfl)
  rw [bC_flat] at this
  exact this
 ·intro hm
  have:=hS.nd
  simp only [List.map_cons,List.map_append,List.cons_append,List.nodup_cons,wrE,entL_keys,List.mem_append,not_or] at this
  exact this.1.1.1 hm
theorem WrG.back {bk0:List (Nat×TypeId×D)} {ow:List (Nat×Nat)} {wb:Nat} {out out':Bs} {a a':Option Addr} {c c':Nat} {w w':World}
  (hS:StAt w ⟨(wb,149,.agg [bD true,.v (.slice a out.length c)])::(wrE a c out++bk0),ow⟩) (hw:Wr w' wb a' c' out') (k:WK wb a w a' w') :
  ∃ S',WrG bk0 ow wb out' S'∧StAt w' S'∧Evo w (⟨(wb,149,.agg [bD true,.v (.slice a out.length c)])::(wrE a c out++bk0),ow⟩:Sto).I w' S'.I:=by
 have hown:Own w' 5 1 a' out'.length c' (out'.flatMap fun b=>[Value.int .u8 (b.toNat:Int)]):=by rw [bC_flat];exact hw.own
 have hnd:=hS.nd
 simp only [List.map_cons,List.map_append,List.cons_append,wrE,entL_keys] at hnd
 have hlt:∀ b,b∈bk0.map (·.1)∨b∈ow.map (·.1)→b<w.heap.size:=fun b hb=>hS.lt (hb.imp (fun h=>by simp only [List.map_cons,List.map_append,List.mem_cons,List.mem_append];exact .inr (.inr h)) id)
 have hwb:wb<w.heap.size:=hS.lt (.inl (by simp))
 have hab:∀ g∈ab a,g<w.heap.size:=fun g hg=>hS.lt (.inl (by simp only [List.map_cons,List.map_append,wrE,entL_keys,List.mem_cons,List.mem_append];exact .inr (.inl hg)))
 have hI:Evo w (⟨(wb,149,.agg [bD true,.v (.slice a out.length c)])::(wrE a c out++bk0),ow⟩:Sto).I w' (⟨(wb,149,.agg [bD true,.v (.slice a' out'.length c')])::(wrE a' c' out'++bk0),ow⟩:Sto).I:=by
  refine k.kp.evo (fun b e hb hi hm=>?_) (fun b e hb hi=>⟨?_,hi.2⟩)
  ·have h1:=hi.1
   simp only [List.map_cons,List.map_append,wrE,entL_keys,List.mem_cons,List.mem_append,not_or] at h1 hm
   rcases hm with hm | hm
   ·exact h1.1 hm
   ·exact h1.2.1 hm
  ·have h1:=hi.1
   simp only [List.map_cons,List.map_append,wrE,entL_keys,List.mem_cons,List.mem_append,not_or] at h1 ⊢
   refine ⟨h1.1,fun hm=>?_,h1.2.2⟩
   rcases k.new b hm with h2 | h2
   ·exact h1.2.1 h2
   ·omega
 refine ⟨⟨(wb,149,.agg [bD true,.v (.slice a' out'.length c')])::(wrE a' c' out'++bk0),ow⟩,⟨a',c',rfl,entL_in hown⟩,⟨?_,fun b t d hm=>?_,fun b L hm=>?_⟩,hI⟩
 ·simp only [List.map_cons,List.map_append,List.cons_append,wrE,entL_keys]
  simp only [List.nodup_cons,List.append_assoc,List.mem_append,not_or] at hnd ⊢
  rw [List.nodup_append] at hnd ⊢
  refine ⟨⟨hw.ne,hnd.1.2⟩,ab_nodup _,hnd.2.2.1,fun x hx y hy e=>?_⟩
  subst e
  rcases k.new x hx with h2 | h2
  ·exact hnd.2.2.2 x h2 x hy rfl
  ·have:=hlt x (List.mem_append.1 hy);omega
 ·rcases List.mem_cons.1 hm with hm | hm
  ·simp only [Prod.mk.injEq] at hm
   obtain ⟨rfl,rfl,rfl⟩:=hm
   refine .of (us:=[.bool true,.slice a' out'.length c']) hw.blk (.of ?_)
   unfold RV
   exact RVs.mk2 (xs:=[_]) (ys:=[_]) (by unfold RV;exact ⟨rfl,rfl⟩) (by unfold RV;exact ⟨rfl,rfl⟩)
  rcases List.mem_append.1 hm with hm | hm
  ·obtain ⟨us,h1,h2⟩:=entL_ok hown (fun I x us=>rv_u8 x us) b t d hm
   exact .of h1 (h2 _)
  ·refine (hS.mutAt b t d (by simp [hm])).kp k.kp (fun hb=>?_) hI
   have hbm:b∈bk0.map (·.1):=List.mem_map.2 ⟨_,hm,rfl⟩
   simp only [List.nodup_cons,List.append_assoc,List.mem_append,not_or] at hnd
   rcases List.mem_cons.1 hb with rfl | hb
   ·exact hnd.1.2.1 hbm
   ·exact (List.nodup_append.1 hnd.2).2.2 b hb b (by simp only [List.mem_append];exact .inl hbm) rfl
 ·obtain ⟨t,cur,h1,h2⟩:=hS.ownAt b L hm
  refine ⟨t,cur,k.kp.blk h1 (fun hb=>?_),h2⟩
  have hbm:b∈ow.map (·.1):=List.mem_map.2 ⟨_,hm,rfl⟩
  simp only [List.nodup_cons,List.append_assoc,List.mem_append,not_or] at hnd
  rcases List.mem_cons.1 hb with rfl | hb
  ·exact hnd.1.2.2 hbm
  ·exact (List.nodup_append.1 hnd.2).2.2 b hb b (by simp only [List.mem_append];exact .inr hbm) rfl
theorem ACalls.writer {f:FuncId} {args:List D} {bk0:List (Nat×TypeId×D)} {ow:List (Nat×Nat)} {wb:Nat} {out out':Bs} {S:Sto} (hc:Callable Tryz.prog f) (h:WrG bk0 ow wb out S)
  (old:∀ w a c xs,Wr w wb a c out→RVals w S.I args xs→Calls Tryz.prog f (Value.pointer (some ⟨wb,0,none⟩)::xs).toArray w (WrPost w wb a out')) :
  ACalls Tryz.prog f (pD wb::args) S (fun e S'=>∃ d,e=.ret d∧(d=.tup []∧WrG bk0 ow wb out' S')):=
 ⟨hc,fun w xs hS hx=>by
  obtain ⟨x,ys,rfl,h1,h2⟩:=hx.cons
  unfold RVal at h1
  obtain ⟨rfl,-⟩:=h1
  obtain ⟨a,c,hw,rfl⟩:=h.wr hS
  refine (old w a c ys hw h2).mono fun e w' ⟨he,a',c',hw',hk⟩=>?_
  subst he
  obtain ⟨S',g1,g2,g3⟩:=WrG.back hS hw' hk
  exact ⟨_,S',g2,g3,RVal.undef,.tup [],rfl,rfl,g1⟩⟩
theorem aWrNew (bk0:List (Nat×TypeId×D)) (ow:List (Nat×Nat)):ACalls Tryz.prog 51 [] ⟨bk0,ow⟩ (fun e S'=>∃ d,e=.ret d∧∃ wb,d=pD wb∧wb ∉ bk0.map (·.1)∧WrG bk0 ow wb [] S'):=
 ⟨callable Tryz.func51 rfl (by kernel_rfl),fun w xs hS hx=>by
  obtain rfl:=hx.nil
  refine (wr_new w).mono fun e w' ⟨he,hw⟩=>?_
  subst he hw
  have hr:RV w (⟨bk0,ow⟩:Sto).I (.agg [bD true,.v (.slice none 0 0)]) [.bool true,.slice none 0 0]:=by
   unfold RV
   exact RVs.mk2 (xs:=[_]) (ys:=[_]) (by unfold RV;exact ⟨rfl,rfl⟩) (by unfold RV;exact ⟨rfl,rfl⟩)
  obtain ⟨h1,h2⟩:=hS.new 149 hr
  exact ⟨_,_,h1,h2,RVal.vv rfl,_,rfl,w.heap.size,rfl,(fresh_new hS).1,none,0,rfl,.inl ⟨rfl,rfl,rfl⟩⟩⟩
theorem aPut64 {bk0:List (Nat×TypeId×D)} {ow:List (Nat×Nat)} {wb:Nat} {out:Bs} {S:Sto} (n:Nat) (h:WrG bk0 ow wb out S) (hn:n<18446744073709551616) (ho:out.length≤70368744177664) :
  ACalls Tryz.prog 52 [pD wb,uD n] S (fun e S'=>∃ d,e=.ret d∧(d=.tup []∧WrG bk0 ow wb (out++fixB 8 n) S')):=
 .writer (callable Tryz.func52 rfl (by kernel_rfl)) h fun w a c xs hw hx=>by
  obtain ⟨x,ys,rfl,h1,h2⟩:=hx.cons
  obtain rfl:=h2.nil
  obtain rfl:=h1.int
  exact wr_put_uint64 wb n c a out w hw hn ho
theorem aWrDigest {bk0:List (Nat×TypeId×D)} {ow:List (Nat×Nat)} {wb:Nat} {out:Bs} {S:Sto} (n:Nat) (d:Dg) (h:WrG bk0 ow wb out S) (hn:n≤32) (ho:out.length≤70368744177664) :
  ACalls Tryz.prog 53 [pD wb,iD n,.dg d] S (fun e S'=>∃ d',e=.ret d'∧(d'=.tup []∧WrG bk0 ow wb (out++d.l.take n) S')):=
 .writer (callable Tryz.func53 rfl (by kernel_rfl)) h fun w a c xs hw hx=>by
  obtain ⟨x,ys,rfl,h1,h2⟩:=hx.cons
  obtain ⟨y,zs,rfl,h3,h4⟩:=h2.cons
  obtain rfl:=h4.nil
  obtain rfl:=h1.int
  obtain rfl:=h3.dig
  exact wr_digest wb c n a out d w hw hn ho
theorem aWrRaw {bk0:List (Nat×TypeId×D)} {ow:List (Nat×Nat)} {wb:Nat} {out:Bs} {S:Sto} (t:Bs) (h:WrG bk0 ow wb out S) (ho:out.length+t.length≤70368744177900) :
  ACalls Tryz.prog 54 [pD wb,.sl .full [sD t]] S (fun e S'=>∃ d,e=.ret d∧(d=.tup []∧WrG bk0 ow wb (out++t) S')):=
 .writer (callable Tryz.func54 rfl (by kernel_rfl)) h fun w a c xs hw hx=>by
  obtain ⟨x,ys,rfl,h1,h2⟩:=hx.cons
  obtain rfl:=h2.nil
  have hx:RV w S.I (.sl .full [sD t]) [x]:=by unfold RVal at h1;exact h1
  obtain ⟨a2,c2,he,_,ht,hs⟩:=hx.list
  simp only [List.cons.injEq,and_true,List.length_cons,List.length_nil] at he
  obtain ⟨b,o,vs,ha,hb,hr,hc⟩:=hs 0 _ rfl
  unfold RV at hr
  obtain ⟨rfl,-⟩:=hr
  have hc2:c2=1:=ht
  subst hc2
  have h0:=hc 0 _ rfl
  rw [ha] at he
  subst he
  exact wr_rawo wb b o c a out t w hw (by simpa using h0) ho
theorem aWrString {bk0:List (Nat×TypeId×D)} {ow:List (Nat×Nat)} {wb:Nat} {out:Bs} {S:Sto} (h:WrG bk0 ow wb out S):ACalls Tryz.prog 55 [pD wb] S (RetQ (sD out) S):=
 ⟨callable Tryz.func55 rfl (by kernel_rfl),fun w xs hS hx=>by
  obtain ⟨x,ys,rfl,h1,h2⟩:=hx.cons
  obtain rfl:=h2.nil
  unfold RVal at h1
  obtain ⟨rfl,-⟩:=h1
  obtain ⟨a,c,hw,-⟩:=h.wr hS
  refine (wr_string wb c a out w hw).mono fun e w' ⟨he,hw'⟩=>?_
  subst he hw'
  exact ⟨_,S,hS,Evo.refl _ _,RVal.of_str,rfl,rfl⟩⟩

structure En where
 ver:Nat
 sum:Dg
 cnt:Nat
 note:Bs
structure En.Ok (e:En):Prop where
 v:e.ver<18446744073709551616
 c:e.cnt<18446744073709551616
 n:e.note.length≤140737488355328
@[go_sem] def enD (e:En):D:=.agg [uD e.ver,.dg e.sum,uD e.cnt,sD e.note]
def writeS (p wid:Int) (e:En):Bs×Int:=
 if rightB p wid=false then ([],2) else if 32<e.note.length then ([],200) else if 1099511627776<e.ver∨1099511627776<e.cnt∨fitB wid e.sum=false then ([],201)
 else (fixB 8 e.ver++fixB 8 e.cnt++e.sum.l.take wid.toNat++e.note,0)
theorem aWrite (p wid:Int) (e:En) (S:Sto) (he:e.Ok):ACalls Tryz.prog 22 [frD p wid,enD e] S (RetQ (.tup [sD (writeS p wid e).1,iD (writeS p wid e).2]) S):=by
 have c1:=fun S=>aNRight p wid S
 have c2:=fun S=>aFits wid e.sum S
 obtain ⟨ev,es,ec,en⟩:=e
 have hv:=he.v;have hc:=he.c;have hn:=he.n
 simp only at hv hc hn c2
 unfold writeS
 simp only
 cases hr:rightB p wid with
 | false=>
  rw [hr] at c1
  refine acalls_of prg Tryz.func22 rfl (by kernel_rfl) (congrArg Array.toList Tryz.results22) Tryz.ntmps22 (fun B hB=>fA ?_)
  refine Wk Y0 ?_
  refine cQ (c1 _) ?_
  refine Wk Y0 ?_
  exact rE
 | true=>
 rw [hr] at c1
 rw [if_neg (by decide)]
 by_cases h1:32<en.length
 ·have d1:decide ((en.length:Int) > 32)=true:=decide_eq_true (by omega)
  rw [if_pos h1]
  refine acalls_of prg Tryz.func22 rfl (by kernel_rfl) (congrArg Array.toList Tryz.results22) Tryz.ntmps22 (fun B hB=>fA ?_)
  refine Wk Y0 ?_
  refine cQ (c1 _) ?_
  refine Wk d1 ?_
  exact rE
 have d1:decide ((en.length:Int) > 32)=false:=decide_eq_false (by omega)
 rw [if_neg h1]
 by_cases h2:1099511627776<ev
 ·have d2:decide ((ev:Int) > 1099511627776)=true:=decide_eq_true (by omega)
  rw [if_pos (.inl h2)]
  refine acalls_of prg Tryz.func22 rfl (by kernel_rfl) (congrArg Array.toList Tryz.results22) Tryz.ntmps22 (fun B hB=>fA ?_)
  refine Wk Y0 ?_
  refine cQ (c1 _) ?_
  refine Wk (Yy d1 d2) ?_
  exact rE
 have d2:decide ((ev:Int) > 1099511627776)=false:=decide_eq_false (by omega)
 by_cases h3:1099511627776<ec
 ·have d3:decide ((ec:Int) > 1099511627776)=true:=decide_eq_true (by omega)
  rw [if_pos (.inr (.inl h3))]
  refine acalls_of prg Tryz.func22 rfl (by kernel_rfl) (congrArg Array.toList Tryz.results22) Tryz.ntmps22 (fun B hB=>fA ?_)
  refine Wk Y0 ?_
  refine cQ (c1 _) ?_
  refine Wk (Yy d1 (Yy d2 d3)) ?_
  exact rE
 have d3:decide ((ec:Int) > 1099511627776)=false:=decide_eq_false (by omega)
 cases h4:fitB wid es with
 | false=>
  rw [h4] at c2
  rw [if_pos (.inr (.inr rfl))]
  refine acalls_of prg Tryz.func22 rfl (by kernel_rfl) (congrArg Array.toList Tryz.results22) Tryz.ntmps22 (fun B hB=>fA ?_)
  refine Wk Y0 ?_
  refine cQ (c1 _) ?_
  refine Wk (Yy d1 (Yy d2 d3)) ?_
  refine cQ (c2 _) ?_
  refine Wk Y0 ?_
  exact rE
 | true=>
 rw [h4] at c2
 rw [if_neg (fun h=>by rcases h with h | h | h <;> first | exact absurd h (by assumption) | cases h)]
 have hw:=rightB_iff.1 hr
 obtain ⟨n,rfl⟩:=Int.eq_ofNat_of_zero_le (show 0≤wid by omega)
 have hl:=List.length_take_le n es.l
 rw [Int.toNat_natCast]
 refine acalls_of prg Tryz.func22 rfl (by kernel_rfl) (congrArg Array.toList Tryz.results22) Tryz.ntmps22 (fun B hB=>fA ?_)
 refine Wk Y0 ?_
 refine cQ (c1 _) ?_
 refine Wk (Yy d1 (Yy d2 d3)) ?_
 refine cQ (c2 _) ?_
 refine Wk Y0 ?_
 refine cX (aWrNew _ _) ?_
 rintro d S1 ⟨b0,rfl,hb,g1⟩
 refine Wk Y0 ?_
 refine cX (aPut64 ev g1 hv (by simp)) ?_
 rintro d S2 ⟨rfl,g2⟩
 refine Wk Y0 ?_
 refine cX (aPut64 ec g2 hc (by simp [fixB_len])) ?_
 rintro d S3 ⟨rfl,g3⟩
 refine Wk Y0 ?_
 refine cX (aWrDigest n es g3 (by omega) (by simp [fixB_len])) ?_
 rintro d S4 ⟨rfl,g4⟩
 refine Wk Y0 ?_
 refine cX (aWrRaw en g4 (by simp [fixB_len];omega)) ?_
 rintro d S5 ⟨rfl,g5⟩
 refine Wk Y0 ?_
 refine cQ (aWrString g5) ?_
 refine Wk Y0 ?_
 obtain ⟨a,c,rfl,-⟩:=g5
 refine endq (S':=S) (sR Y0) (by simp [oneOf]) ⟨(List.sublist_append_right _ _).cons _,List.Sublist.refl _⟩

end Go.Proofs.YtgjaaffheanobaaGreat